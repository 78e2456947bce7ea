/- ZR15 -/
import Derived.Test.YtghaobakpdninaaGreatDoorZR14
set_option linter.unusedVariables false
set_option linter.unusedSimpArgs false
set_option maxRecDepth 100000
set_option maxHeartbeats 16000000
namespace Go.Proofs.YtghaobakpdninaaGreatDoor
open Go.RowKit
theorem setCells_cons (W:World)(g o:Nat)(v:Value)(r:List Value):W.setCells g o (v::r)=(W.setCell ⟨g,o,none⟩ v).setCells g (o+1) r:=rfl
theorem tpC_cons (p:TP):∃ r,tpC p=.int .u32 p.c::.bool p.up::r∧r.length=14:=⟨_,rfl,rfl⟩
section
variable {w:World} {m g cap:Nat} {t:List Value} {id rt co po ho ve fl:Int} {a u:Bool}
theorem up0 (h:TR w m g cap t (ml id false (lk u bp0 0 false 0) rt co po ho ve fl)):w.setCells g 0 (tpC (hp true))=w.setCell ⟨g,1,none⟩ (.bool true)∧TR (w.setCell ⟨g,1,none⟩ (.bool true)) m g cap t (ml id true (lk u bp0 0 false 0) rt co po ho ve fl):=by
 have r:=h.row.s 0 (by show 0<2;decide) 1 (by decide) (.bool true) (hp true) rfl
 have hT:TR (w.setCell ⟨g,1,none⟩ (.bool true)) m g cap t (ml id true (lk u bp0 0 false 0) rt co po ho ve fl):=⟨h.tm.other h.ne.symm _,r,h.ne,h.n1,h.cp,h.iw⟩
 refine⟨?_,hT⟩
 have e0:w.cell? ⟨g,0,none⟩=some (.int .u32 0):=h.h0 0 (by decide) _ rfl
 obtain⟨L,eL,hL⟩:=tpC_cons (hp true)
 rw[eL,setCells_cons,setCells_cons]
 show(((w.setCell ⟨g,0,none⟩ (.int .u32 0)).setCell ⟨g,1,none⟩ (.bool true)).setCells g 2 L)=_
 rw[setCell_id e0]
 refine setCells_id _ _ fun j v hv=>?_
 have hj:j<14:=by have:=(List.getElem?_eq_some_iff.1 hv).1;omega
 exact hT.h0 (2+j) (by omega) v (by rw[eL,Nat.add_comm];exact hv)
theorem up1 (h:TR w m g cap t (ml id a (lk false bp0 0 false 0) rt co po ho ve fl)):w.setCells g 16 (tpC (lk true bp0 0 false 0))=w.setCell ⟨g,17,none⟩ (.bool true)∧TR (w.setCell ⟨g,17,none⟩ (.bool true)) m g cap t (ml id a (lk true bp0 0 false 0) rt co po ho ve fl):=by
 have hT:=h.xSet 1 (by decide) (.bool true) (lk true bp0 0 false 0) rfl
 refine⟨?_,hT⟩
 have e0:w.cell? ⟨g,16,none⟩=some (.int .u32 5):=h.x1 0 (by decide) _ rfl
 obtain⟨L,eL,hL⟩:=tpC_cons (lk true bp0 0 false 0)
 rw[eL,setCells_cons,setCells_cons]
 show(((w.setCell ⟨g,16,none⟩ (.int .u32 5)).setCell ⟨g,17,none⟩ (.bool true)).setCells g 18 L)=_
 rw[setCell_id e0]
 refine setCells_id _ _ fun j v hv=>?_
 have hj:j<14:=by have:=(List.getElem?_eq_some_iff.1 hv).1;omega
 have:=hT.x1 (2+j) (by omega) v (by rw[eL,Nat.add_comm];exact hv)
 rw[show 16+(2+j)=18+j by omega] at this;exact this
end
theorem tpower0 (m g cap:Nat)(t:List Value)(id:Int)(w:World)(h:TR w m g cap t (ml id false (lk false bp0 0 false 0) id 0 (-1) 0 1 0)):Calls Tryz.prog 87 #[.pointer (some ⟨m,0,none⟩),.int .u8 0,.bool true] w fun en w'=>en=.returned (.slice none 0 0)∧TR w' m g cap t (ml id true (lk false bp0 0 false 0) id 0 (-1) 0 1 0)∧Fr (D2 m g) w w':=by
 have AT:=hd0 (tat0 m g cap t id false false bp0 0 false 0 id 0 (-1) 0 1 0 w h)
 have c0:w.cell? ⟨g,0,none⟩=some (.int .u32 0):=h.h0 0 (by decide) _ rfl
 have c1:w.cell? ⟨g,1,none⟩=some (.bool false):=h.h0 1 (by decide) _ rfl
 have HU:=up0 h
 have TH:Hid (w.there g 0 (Array.size #[Value.int .u32 0,.bool true,.int .u64 0,.int .u32 0,.int .u64 0,.int .u8 0,.int .u8 0,.int .u64 0,.int .u8 0,.bool false,.bool false,.bool false,.int .u64 0,.int .i64 0,.bool false,.int .i64 0])):=hd0 fun j hj=>by
  have hj:j<16:=hj
  refine⟨?_,h.row.fr _⟩
  obtain⟨v,hv⟩:∃ v,(tpC (hp false))[j]?=some v:=⟨_,List.getElem?_eq_getElem (by rw[tpC_len];exact hj)⟩
  have:=h.h0 j hj v hv
  rw[Nat.zero_add];rw[this];rfl
 have HI:Hid ((Tryz.prog.info? 214).map (·.size)=some (Array.size #[Value.int .u32 0,.bool true,.int .u64 0,.int .u32 0,.int .u64 0,.int .u8 0,.int .u8 0,.int .u64 0,.int .u8 0,.bool false,.bool false,.bool false,.int .u64 0,.int .i64 0,.bool false,.int .i64 0])):=hd0 (by kernel_rfl)
 have HO:Hid ((#[.int .u32 0,.bool true,.int .u64 0,.int .u32 0,.int .u64 0,.int .u8 0,.int .u8 0,.int .u64 0,.int .u8 0,.bool false,.bool false,.bool false,.int .u64 0,.int .i64 0,.bool false,.int .i64 0]:Array Value).all (·.oneCell')=true):=hd0 (by kernel_rfl)
 have hsc:=HU.1
 obtain⟨w1,hw1⟩:∃ z,w.setCell ⟨g,1,none⟩ (.bool true)=z:=⟨_,rfl⟩
 have ho:Only g w w1:=by rw[←hw1];exact Only.set _ _ _ _
 rw[hw1] at HU hsc
 have hsc:w.setCells g 0 [Value.int .u32 0,.bool true,.int .u64 0,.int .u32 0,.int .u64 0,.int .u8 0,.int .u8 0,.int .u64 0,.int .u8 0,.bool false,.bool false,.bool false,.int .u64 0,.int .i64 0,.bool false,.int .i64 0]=w1:=hsc
 have CH:=hd0 (tchooseN m g cap t id true false bp0 0 false 0 1 0 (Or.inl rfl) (fun h=>by cases h) w1 HU.2)
 have HT:=hd0 HU.2
 have HOn:=hd0 ho
 clear h HU ho hw1
 go_enter Tryz.func87,Tryz.ntmps87
 go_wp2_with (first
  |(go_at_call 111;with_reducible refine AT.out.mono ?_;rintro e w' ⟨rfl,rfl⟩)
  |(go_at_call 118;with_reducible refine CH.out.mono ?_;rintro e w2 ⟨rfl,hb2⟩)
  |((with_reducible refine wpList_store_mid rfl 214 (.tmp 28) (.tmp 27) rfl g 0 #[Value.int .u32 0,.bool true,.int .u64 0,.int .u32 0,.int .u64 0,.int .u8 0,.int .u8 0,.int .u64 0,.int .u8 0,.bool false,.bool false,.bool false,.int .u64 0,.int .i64 0,.bool false,.int .i64 0] ?hx ?hy TH.out HI.out HO.out ?_);(case hx=>rfl);(case hy=>rfl)))
 go_ret
 exact⟨rfl,HT.out.later hb2,(Fr.of_only HOn.out (Or.inr rfl)).trans (Fr.of_below hb2)⟩
theorem tup0 (m g cap:Nat)(t:List Value)(id:Int)(w:World)(h:TR w m g cap t (ml id false (lk false bp0 0 false 0) id 0 (-1) 0 1 0)):Calls Tryz.prog 67 #[.pointer (some ⟨m,0,none⟩),.int .u8 0] w fun en w'=>en=.returned (.slice none 0 0)∧TR w' m g cap t (ml id true (lk false bp0 0 false 0) id 0 (-1) 0 1 0)∧Fr (D2 m g) w w':=by
 have PW:=hd0 (tpower0 m g cap t id w h)
 clear h
 go_enter Tryz.func67,Tryz.ntmps67
 go_wp2_with (go_at_call 87;with_reducible refine PW.out.mono ?_;rintro e w1 ⟨rfl,ht,ho⟩)
 go_ret
 exact⟨rfl,ht,ho⟩
theorem tpower1 (m g cap:Nat)(t:List Value)(id:Int)(a:Bool)(w:World)(h:TR w m g cap t (ml id a (lk false bp0 0 false 0) id 0 (-1) 0 1 0)):Calls Tryz.prog 87 #[.pointer (some ⟨m,0,none⟩),.int .u8 1,.bool true] w fun en w'=>en=.returned (.slice none 0 0)∧TR w' m g cap t (ml id a (lk true bp0 0 false 0) id 0 (-1) 0 1 0)∧Fr (D2 m g) w w':=by
 have AT:=hd0 (tat1 m g cap t id a false bp0 0 false 0 id 0 (-1) 0 1 0 w h)
 have c0:w.cell? ⟨g,16,none⟩=some (.int .u32 5):=h.x1 0 (by decide) _ rfl
 have c1:w.cell? ⟨g,17,none⟩=some (.bool false):=h.x1 1 (by decide) _ rfl
 have HU:=up1 h
 have TH:Hid (w.there g 16 (Array.size #[Value.int .u32 5,.bool true,.int .u64 0,.int .u32 0,.int .u64 0,.int .u8 0,.int .u8 0,.int .u64 0,.int .u8 0,.bool false,.bool false,.bool false,.int .u64 0,.int .i64 0,.bool false,.int .i64 0])):=hd0 fun j hj=>by
  have hj:j<16:=hj
  refine⟨?_,h.row.fr _⟩
  obtain⟨v,hv⟩:∃ v,(tpC (lk false bp0 0 false 0))[j]?=some v:=⟨_,List.getElem?_eq_getElem (by rw[tpC_len];exact hj)⟩
  have:=h.x1 j hj v hv
  rw[this];rfl
 have HI:Hid ((Tryz.prog.info? 214).map (·.size)=some (Array.size #[Value.int .u32 5,.bool true,.int .u64 0,.int .u32 0,.int .u64 0,.int .u8 0,.int .u8 0,.int .u64 0,.int .u8 0,.bool false,.bool false,.bool false,.int .u64 0,.int .i64 0,.bool false,.int .i64 0])):=hd0 (by kernel_rfl)
 have HO:Hid ((#[.int .u32 5,.bool true,.int .u64 0,.int .u32 0,.int .u64 0,.int .u8 0,.int .u8 0,.int .u64 0,.int .u8 0,.bool false,.bool false,.bool false,.int .u64 0,.int .i64 0,.bool false,.int .i64 0]:Array Value).all (·.oneCell')=true):=hd0 (by kernel_rfl)
 have hsc:=HU.1
 obtain⟨w1,hw1⟩:∃ z,w.setCell ⟨g,17,none⟩ (.bool true)=z:=⟨_,rfl⟩
 have ho:Only g w w1:=by rw[←hw1];exact Only.set _ _ _ _
 rw[hw1] at HU hsc
 have hsc:w.setCells g 16 [Value.int .u32 5,.bool true,.int .u64 0,.int .u32 0,.int .u64 0,.int .u8 0,.int .u8 0,.int .u64 0,.int .u8 0,.bool false,.bool false,.bool false,.int .u64 0,.int .i64 0,.bool false,.int .i64 0]=w1:=hsc
 have CH:=hd0 (tchooseN m g cap t id a true bp0 0 false 0 1 0 (Or.inr (Or.inl rfl)) (fun h=>by cases h) w1 HU.2)
 have HT:=hd0 HU.2
 have HOn:=hd0 ho
 clear h HU ho hw1
 go_enter Tryz.func87,Tryz.ntmps87
 go_wp2_with (first
  |(go_at_call 111;with_reducible refine AT.out.mono ?_;rintro e w' ⟨rfl,rfl⟩)
  |(go_at_call 118;with_reducible refine CH.out.mono ?_;rintro e w2 ⟨rfl,hb2⟩)
  |((with_reducible refine wpList_store_mid rfl 214 (.tmp 28) (.tmp 27) rfl g 16 #[Value.int .u32 5,.bool true,.int .u64 0,.int .u32 0,.int .u64 0,.int .u8 0,.int .u8 0,.int .u64 0,.int .u8 0,.bool false,.bool false,.bool false,.int .u64 0,.int .i64 0,.bool false,.int .i64 0] ?hx ?hy TH.out HI.out HO.out ?_);(case hx=>rfl);(case hy=>rfl)))
 go_ret
 exact⟨rfl,HT.out.later hb2,(Fr.of_only HOn.out (Or.inr rfl)).trans (Fr.of_below hb2)⟩
theorem tup1 (m g cap:Nat)(t:List Value)(id:Int)(a:Bool)(w:World)(h:TR w m g cap t (ml id a (lk false bp0 0 false 0) id 0 (-1) 0 1 0)):Calls Tryz.prog 67 #[.pointer (some ⟨m,0,none⟩),.int .u8 1] w fun en w'=>en=.returned (.slice none 0 0)∧TR w' m g cap t (ml id a (lk true bp0 0 false 0) id 0 (-1) 0 1 0)∧Fr (D2 m g) w w':=by
 have PW:=hd0 (tpower1 m g cap t id a w h)
 clear h
 go_enter Tryz.func67,Tryz.ntmps67
 go_wp2_with (go_at_call 87;with_reducible refine PW.out.mono ?_;rintro e w1 ⟨rfl,ht,ho⟩)
 go_ret
 exact⟨rfl,ht,ho⟩
theorem tfwd0 (m g cap:Nat)(t:List Value)(id:Int)(x:Bp)(la:Int)(ag:Bool)(sp rt co po ho ve fl:Int)(w:World)(h:TR w m g cap t (ml id true (lk true x la ag sp) rt co po ho ve fl)):Calls Tryz.prog 52 #[.pointer (some ⟨m,0,none⟩),.int .u8 0] w fun en w'=>en=.returned (.bool true)∧Below w.heap.size w w':=by
 have RO:Hid (Calls Tryz.prog 78 #[.pointer (some ⟨m,0,none⟩),.int .u8 0] w fun en w'=>en=.returned (.int .u8 5)∧w=w'):=hd0 (trole0 m g cap t id true true x la ag sp rt co po ho ve fl w h)
 clear h
 go_enter Tryz.func52,Tryz.ntmps52
 go_wp2_with (go_at_call 78;with_reducible refine RO.out.mono ?_;rintro e w' ⟨rfl,rfl⟩)
 go_ret
 exact⟨rfl,Below.refl _ _⟩
theorem tfwd2 (m g cap:Nat)(t:List Value)(id:Int)(a u:Bool)(x:Bp)(la:Int)(ag:Bool)(sp rt co po ho ve fl:Int)(i:Nat)(hi:2≤i)(h8:i<256)(w:World)(h:TR w m g cap t (ml id a (lk u x la ag sp) rt co po ho ve fl)):Calls Tryz.prog 52 #[.pointer (some ⟨m,0,none⟩),.int .u8 i] w fun en w'=>en=.returned (.bool false)∧Below w.heap.size w w':=by
 have RO:=hd0 (trole2 m g cap t id a u x la ag sp rt co po ho ve fl w i hi h8 h)
 clear h
 go_enter Tryz.func52,Tryz.ntmps52
 go_wp2_with (go_at_call 78;with_reducible refine RO.out.mono ?_;rintro e w' ⟨rfl,rfl⟩)
 go_ret
 exact⟨rfl,Below.refl _ _⟩
theorem tfwdR (m g cap:Nat)(t:List Value)(id:Int)(a:Bool)(x:Bp)(la:Int)(ag:Bool)(sp rt co ho ve fl:Int)(w:World)(h:TR w m g cap t (ml id a (lk true x la ag sp) rt co 1 ho ve fl)):Calls Tryz.prog 52 #[.pointer (some ⟨m,0,none⟩),.int .u8 1] w fun en w'=>en=.returned (.bool true)∧Below w.heap.size w w':=by
 have RO:=hd0 (troleR m g cap t id a x la ag sp rt co ho ve fl w h)
 clear h
 go_enter Tryz.func52,Tryz.ntmps52
 go_wp2_with (go_at_call 78;with_reducible refine RO.out.mono ?_;rintro e w' ⟨rfl,rfl⟩)
 go_ret
 exact⟨rfl,Below.refl _ _⟩
theorem tfwdD (m g cap:Nat)(t:List Value)(a:Bool)(la:Int)(ag:Bool)(sp ho ve fl:Int)(hl:la≠0)(w:World)(h:TR w m g cap t (ml 16 a (lk true wR la ag sp) 16 0 (-1) ho ve fl)):Calls Tryz.prog 52 #[.pointer (some ⟨m,0,none⟩),.int .u8 1] w fun en w'=>en=.returned (.bool ag)∧Below w.heap.size w w':=by
 have RO:=hd0 (troleA2 m g cap t a true la ag sp ho ve fl hl w h)
 have HT:=hd0 h
 clear h
 go_enter Tryz.func52,Tryz.ntmps52
 go_wp2_with fail
 with_reducible refine RO.out.mono ?_
 rintro e w1 ⟨rfl,hb1⟩
 have c1:=(HT.out.later hb1).l1
 have c30:w1.cell? ⟨g,30,none⟩=some (.bool ag):=(HT.out.later hb1).x1 14 (by decide) _ rfl
 go_wp2_with fail
 go_ret
 exact⟨rfl,hb1⟩
theorem tnewL (id:Int)(hid:0≤id∧id<18446744073709551616)(b c:Nat)(w:World)(hz0:w.cell? ⟨b,0,none⟩=some (.int .u32 0))(hz1:w.cell? ⟨b,1,none⟩=some (.int .u32 5)):Calls Tryz.prog 62 #[.int .u64 id,.slice (some ⟨b,0,none⟩) 2 c] w fun en w'=>∃ (m g cap:Nat) (t:List Value),en=.returned (.tuple #[.pointer (some ⟨m,0,none⟩),.int .i64 0])∧TR w' m g cap t (ml id false (lk false bp0 0 false 0) id 0 (-1) 0 1 0)∧Below w.heap.size w w'∧w.heap.size≤m∧w.heap.size≤g:=by
 have HBB:=hd0 (show b<w.heap.size from World.block_lt_of_cell? w _ hz0)
 have HZ0:=hd0 hz0
 have HZ1:=hd0 hz1
 have HID:=hd0 hid
 clear hz0 hz1 hid
 have hb0:=(Below.refl w.heap.size w).alloc (Nat.le_refl _) (.cells #[.int .u64 id,.slice none 0 0,.int .u64 id,.int .u32 0,.int .i64 (-1),.int .u8 0,.int .u64 1,.int .u8 0] 219)
 have g0:=GB.new 219 w #[.int .u64 id,.slice none 0 0,.int .u64 id,.int .u32 0,.int .i64 (-1),.int .u8 0,.int .u64 1,.int .u8 0]
 obtain⟨w0,hw0⟩:∃ z,w.alloc (.cells #[.int .u64 id,.slice none 0 0,.int .u64 id,.int .u32 0,.int .i64 (-1),.int .u8 0,.int .u64 1,.int .u8 0] 219)=z:=⟨_,rfl⟩
 rw[hw0] at hb0 g0
 have hz0:w0.heap.size=w.heap.size+1:=by rw[←hw0];simp
 have HG0:=hd0 g0
 have HB0:=hd0 hb0
 have HO0:=hd0 (Ow.none (k:=16) (f:=tpC) (E:=214) w0 (w.heap.size+1))
 have HS0:=hd0 (show w.heap.size+1≤w0.heap.size by omega)
 clear g0 hb0 hz0
 go_enter Tryz.func62,Tryz.ntmps62
 go_upto_region 4 with fail
 clear hw0
 go_wp2_with fail
 refine wp_loop_rounds 3 ?_
 have ck:w0.cell? ⟨b,0,none⟩=some (.int .u32 0):=(HB0.out.cell (p:=⟨b,0,none⟩) HBB.out).trans HZ0.out
 have q1:w0.cell? ⟨w.heap.size,1,none⟩=some (.slice none 0 0):=HG0.out.c 1 _ rfl
 have qf:=HG0.out.fr 1
 have hql:=HG0.out.lt
 have hlit:Rw 16 tpC (w0.alloc (.cells #[.int .u32 0,.bool false,.int .u64 0,.int .u32 0,.int .u64 0,.int .u8 0,.int .u8 0,.int .u64 0,.int .u8 0,.bool false,.bool false,.bool false,.int .u64 0,.int .i64 0,.bool false,.int .i64 0] 214)) (.slice (some ⟨w0.heap.size,0,none⟩) 1 1) [(hp false)]:=(Ow.lit (E:=214) tpC_len w0 0 (hp false) #[.int .u32 0,.bool false,.int .u64 0,.int .u32 0,.int .u64 0,.int .u8 0,.int .u8 0,.int .u64 0,.int .u8 0,.bool false,.bool false,.bool false,.int .u64 0,.int .i64 0,.bool false,.int .i64 0] rfl (Nat.zero_le _)).rw tpC_len
 have HL:=hd0 hlit
 have hol:=HO0.out.later (bAo (.cells #[.int .u32 0,.bool false,.int .u64 0,.int .u32 0,.int .u64 0,.int .u8 0,.int .u8 0,.int .u64 0,.int .u8 0,.bool false,.bool false,.bool false,.int .u64 0,.int .i64 0,.bool false,.int .i64 0] 214))
 have HOL:=hd0 hol
 have hsz:w.heap.size+1≤(w0.alloc (.cells #[.int .u32 0,.bool false,.int .u64 0,.int .u32 0,.int .u64 0,.int .u8 0,.int .u8 0,.int .u64 0,.int .u8 0,.bool false,.bool false,.bool false,.int .u64 0,.int .i64 0,.bool false,.int .i64 0] 214)).heap.size:=by have:=HS0.out;simp;omega
 have HSZ:=hd0 hsz
 clear hlit hol hsz
 rw[rounds_succ]
 go_upto_region 9 with fail
 go_wp2_with (at_builtin;refine wpList_append_rw tpC_len tpC_one 214 215 _ 96 Tryz.underlying215 info_port rfl (by decide) (by decide) rfl (.tmp 34) (.tmp 37) rfl (w.heap.size+1) _ _ rfl HOL.out _ _ rfl HL.out (by simp) HSZ.out ?_;intro v1 wx ho1 hb1;obtain⟨g1,cap1,t1,rfl,hg1,hc1,hh1⟩:=ho1.ne (by simp);have qz:wx.cell? ⟨w.heap.size,1,none⟩=some (.slice none 0 0):=(hb1.cell (p:=⟨w.heap.size,1,none⟩) (by show w.heap.size<w.heap.size+1;omega)).trans (by exact((bAo _).cell (p:=⟨w.heap.size,1,none⟩) hql).trans q1);have qzf:wx.frozen? ⟨w.heap.size,1,none⟩=false:=(hb1.frozen (p:=⟨w.heap.size,1,none⟩) (by show w.heap.size<w.heap.size+1;omega)).trans (by exact((bAo _).frozen (p:=⟨w.heap.size,1,none⟩) hql).trans qf))
 have gn:GB 219 (wx.setCell ⟨w.heap.size,1,none⟩ (.slice (some ⟨g1,0,none⟩) 1 cap1)) w.heap.size #[.int .u64 id,.slice (some ⟨g1,0,none⟩) 1 cap1,.int .u64 id,.int .u32 0,.int .i64 (-1),.int .u8 0,.int .u64 1,.int .u8 0]:=((HG0.out.later (bAo _)).below (Nat.lt_succ_self _) hb1).set 1 _
 have on:Ow 16 tpC 214 (wx.setCell ⟨w.heap.size,1,none⟩ (.slice (some ⟨g1,0,none⟩) 1 cap1)) (w.heap.size+1) (.slice (some ⟨g1,0,none⟩) 1 cap1) [(hp false)]:=ho1.setB (Nat.lt_succ_self _) 1 _
 have bn:Below w.heap.size w (wx.setCell ⟨w.heap.size,1,none⟩ (.slice (some ⟨g1,0,none⟩) 1 cap1)):=below_set ((HB0.out.alloc HB0.out.size _).trans (hb1.mono (Nat.le_succ _))) (Nat.le_refl _) _
 obtain⟨w1,hw1⟩:∃ z,wx.setCell ⟨w.heap.size,1,none⟩ (.slice (some ⟨g1,0,none⟩) 1 cap1)=z:=⟨_,rfl⟩
 rw[hw1] at gn on bn
 have HG1:=hd0 gn
 have HO1:=hd0 on
 have HB1:=hd0 bn
 try rw[show(wx.setCell ⟨w.heap.size,1,none⟩ (.slice (some ⟨g1,0,none⟩) 1 cap1))=w1 from hw1]
 clear hw1 gn on bn qz qzf q1 qf hql ck HL HOL HSZ ho1 hb1 hh1 HG0 HO0 HB0
 have HS1:=hd0 (show w.heap.size+1≤w1.heap.size by have:=HG1.out.lt;omega)
 have ck:w1.cell? ⟨b,1,none⟩=some (.int .u32 5):=(HB1.out.cell (p:=⟨b,1,none⟩) HBB.out).trans HZ1.out
 have q1:w1.cell? ⟨w.heap.size,1,none⟩=some (.slice (some ⟨g1,0,none⟩) 1 cap1):=HG1.out.c 1 _ rfl
 have qf:=HG1.out.fr 1
 have hql:=HG1.out.lt
 have hlit:Rw 16 tpC (w1.alloc (.cells #[.int .u32 5,.bool false,.int .u64 0,.int .u32 0,.int .u64 0,.int .u8 0,.int .u8 0,.int .u64 0,.int .u8 0,.bool false,.bool false,.bool false,.int .u64 0,.int .i64 0,.bool false,.int .i64 0] 214)) (.slice (some ⟨w1.heap.size,0,none⟩) 1 1) [(lk false bp0 0 false 0)]:=(Ow.lit (E:=214) tpC_len w1 0 (lk false bp0 0 false 0) #[.int .u32 5,.bool false,.int .u64 0,.int .u32 0,.int .u64 0,.int .u8 0,.int .u8 0,.int .u64 0,.int .u8 0,.bool false,.bool false,.bool false,.int .u64 0,.int .i64 0,.bool false,.int .i64 0] rfl (Nat.zero_le _)).rw tpC_len
 have HL:=hd0 hlit
 have hol:=HO1.out.later (bAo (.cells #[.int .u32 5,.bool false,.int .u64 0,.int .u32 0,.int .u64 0,.int .u8 0,.int .u8 0,.int .u64 0,.int .u8 0,.bool false,.bool false,.bool false,.int .u64 0,.int .i64 0,.bool false,.int .i64 0] 214))
 have HOL:=hd0 hol
 have hsz:w.heap.size+1≤(w1.alloc (.cells #[.int .u32 5,.bool false,.int .u64 0,.int .u32 0,.int .u64 0,.int .u8 0,.int .u8 0,.int .u64 0,.int .u8 0,.bool false,.bool false,.bool false,.int .u64 0,.int .i64 0,.bool false,.int .i64 0] 214)).heap.size:=by have:=HS1.out;simp;omega
 have HSZ:=hd0 hsz
 clear hlit hol hsz
 rw[rounds_succ]
 go_upto_region 9 with fail
 go_wp2_with (at_builtin;refine wpList_append_rw tpC_len tpC_one 214 215 _ 96 Tryz.underlying215 info_port rfl (by decide) (by decide) rfl (.tmp 34) (.tmp 37) rfl (w.heap.size+1) _ _ rfl HOL.out _ _ rfl HL.out (by simp) HSZ.out ?_;intro v1 wx ho1 hb1;obtain⟨g2,cap2,t2,rfl,hg2,hc2,hh1⟩:=ho1.ne (by simp);have qz:wx.cell? ⟨w.heap.size,1,none⟩=some (.slice (some ⟨g1,0,none⟩) 1 cap1):=(hb1.cell (p:=⟨w.heap.size,1,none⟩) (by show w.heap.size<w.heap.size+1;omega)).trans (by exact((bAo _).cell (p:=⟨w.heap.size,1,none⟩) hql).trans q1);have qzf:wx.frozen? ⟨w.heap.size,1,none⟩=false:=(hb1.frozen (p:=⟨w.heap.size,1,none⟩) (by show w.heap.size<w.heap.size+1;omega)).trans (by exact((bAo _).frozen (p:=⟨w.heap.size,1,none⟩) hql).trans qf))
 have gn:GB 219 (wx.setCell ⟨w.heap.size,1,none⟩ (.slice (some ⟨g2,0,none⟩) 2 cap2)) w.heap.size #[.int .u64 id,.slice (some ⟨g2,0,none⟩) 2 cap2,.int .u64 id,.int .u32 0,.int .i64 (-1),.int .u8 0,.int .u64 1,.int .u8 0]:=((HG1.out.later (bAo _)).below (Nat.lt_succ_self _) hb1).set 1 _
 have on:Ow 16 tpC 214 (wx.setCell ⟨w.heap.size,1,none⟩ (.slice (some ⟨g2,0,none⟩) 2 cap2)) (w.heap.size+1) (.slice (some ⟨g2,0,none⟩) 2 cap2) [(hp false),(lk false bp0 0 false 0)]:=ho1.setB (Nat.lt_succ_self _) 1 _
 have bn:Below w.heap.size w (wx.setCell ⟨w.heap.size,1,none⟩ (.slice (some ⟨g2,0,none⟩) 2 cap2)):=below_set ((HB1.out.alloc HB1.out.size _).trans (hb1.mono (Nat.le_succ _))) (Nat.le_refl _) _
 obtain⟨w2,hw2⟩:∃ z,wx.setCell ⟨w.heap.size,1,none⟩ (.slice (some ⟨g2,0,none⟩) 2 cap2)=z:=⟨_,rfl⟩
 rw[hw2] at gn on bn
 have HG2:=hd0 gn
 have HO2:=hd0 on
 have HB2:=hd0 bn
 try rw[show(wx.setCell ⟨w.heap.size,1,none⟩ (.slice (some ⟨g2,0,none⟩) 2 cap2))=w2 from hw2]
 clear hw2 gn on bn qz qzf q1 qf hql ck HL HOL HSZ ho1 hb1 hh1 HG1 HO1 HB1
 rw[rounds_succ]
 go_wp2_with fail
 obtain⟨gg,cc,tt,he,hgg,hcc,hrow⟩:=HO2.out.ne (by simp)
 injection he with he1 he2 he3
 injection he1 with he1
 injection he1 with he1
 subst he1
 have hT:TR w2 w.heap.size g2 cap2 tt (ml id false (lk false bp0 0 false 0) id 0 (-1) 0 1 0):=⟨HG2.out,hrow,by omega,(by decide:1≤2∧2≤8),hc2,HID.out⟩
 refine bodyPost_ret (v:=.tuple #[.pointer (some ⟨w.heap.size,0,none⟩),.int .i64 0]) (by simp[results,Tryz.results62,go_sem]) rfl ⟨_,_,_,_,rfl,hT,HB2.out,Nat.le_refl _,by omega⟩


structure BP where
 b:Nat
 m:Nat
 g:Nat
 cap:Nat
 t:List Value
 r:Nat
 q:Nat
 vm:Nat
 f:Nat
 s:Nat
 c:Nat
def brA (P:BP)(dr:Int):Array Value:=#[.int .u64 16,.pointer (some ⟨P.m,0,none⟩),.pointer (some ⟨P.r,0,none⟩),.pointer (some ⟨P.c,0,none⟩),.slice none 0 0,.int .u64 0,.int .u64 dr]
structure BS (W:World)(P:BP)(U:List Bool)(o:List Int)(V:List Vn)(v:Value)(dr:Int):Prop where
 gb:GB 162 W P.b (brA P dr)
 tr:TR W P.m P.g P.cap P.t (hm 16 U)
 rl:RL W P.r P.q P.vm P.f P.s 2 o V v
 nb:P.b≠P.m∧P.b≠P.g∧P.b≠P.r∧P.b≠P.q∧P.b≠P.vm∧P.b≠P.f∧P.b≠P.s
 nm:P.m≠P.r∧P.m≠P.q∧P.m≠P.vm∧P.m≠P.f∧P.m≠P.s
 ng:P.g≠P.r∧P.g≠P.q∧P.g≠P.vm∧P.g≠P.f∧P.g≠P.s
 ul:U.length=2
section
variable {W W':World} {P:BP} {U:List Bool} {o:List Int} {V:List Vn} {v:Value} {dr:Int}
end
def InR (lo hi k:Nat):Prop:=lo≤k∧k<hi
def bnA (id:Int)(P:BP):Array Value:=#[.int .u64 id,.pointer (some ⟨P.m,0,none⟩),.pointer (some ⟨P.r,0,none⟩),.pointer (some ⟨P.c,0,none⟩),.slice none 0 0,.int .u64 0,.int .u64 0]
structure BI (lo hi:Nat)(P:BP):Prop where
 b:InR lo hi P.b
 m:InR lo hi P.m
 g:InR lo hi P.g
 r:InR lo hi P.r
 q:InR lo hi P.q
 vm:InR lo hi P.vm
 f:InR lo hi P.f
 s:InR lo hi P.s
structure BN (W:World)(lo hi:Nat)(P:BP)(T:TM)(o:List Int)(V:List Vn)(v:Value):Prop where
 gb:GB 162 W P.b (bnA T.id P)
 tr:TR W P.m P.g P.cap P.t T
 rl:RL W P.r P.q P.vm P.f P.s 2 o V v
 nb:P.b≠P.m∧P.b≠P.g∧P.b≠P.r∧P.b≠P.q∧P.b≠P.vm∧P.b≠P.f∧P.b≠P.s
 nm:P.m≠P.r∧P.m≠P.q∧P.m≠P.vm∧P.m≠P.f∧P.m≠P.s
 ng:P.g≠P.r∧P.g≠P.q∧P.g≠P.vm∧P.g≠P.f∧P.g≠P.s
 bi:BI lo hi P
section
variable {W W':World} {lo hi:Nat} {P:BP} {T T':TM} {o o':List Int} {V V':List Vn} {v v':Value}
theorem BN.c0 (h:BN W lo hi P T o V v):W.cell? ⟨P.b,0,none⟩=some (.int .u64 T.id):=h.gb.c 0 _ rfl
theorem BN.c1 (h:BN W lo hi P T o V v):W.cell? ⟨P.b,1,none⟩=some (.pointer (some ⟨P.m,0,none⟩)):=h.gb.c 1 _ rfl
theorem BN.c2 (h:BN W lo hi P T o V v):W.cell? ⟨P.b,2,none⟩=some (.pointer (some ⟨P.r,0,none⟩)):=h.gb.c 2 _ rfl
theorem BN.c4 (h:BN W lo hi P T o V v):W.cell? ⟨P.b,4,none⟩=some (.slice none 0 0):=h.gb.c 4 _ rfl
theorem BN.blk (h:BN W lo hi P T o V v)(e:∀ k,k<W.heap.size→InR lo hi k→W'.heap[k]?=W.heap[k]?):BN W' lo hi P T o V v :=
 ⟨(e _ h.gb.lt h.bi.b).trans h.gb,h.tr.blk (e _ h.tr.tm.lt h.bi.m) (e _ h.tr.row.lt h.bi.g),⟨(e _ h.rl.g.lt h.bi.r).trans h.rl.g,h.rl.ts.blk (e _ h.rl.ts.tb.lt h.bi.q) (e _ h.rl.ts.vm.lt h.bi.vm),h.rl.ft.blk (e _ h.rl.ft.g.lt h.bi.f) (e _ h.rl.ft.m.lt h.bi.s),h.rl.nr⟩,h.nb,h.nm,h.ng,h.bi⟩
theorem BN.later (h:BN W lo hi P T o V v)(hb:Below W.heap.size W W'):BN W' lo hi P T o V v:=h.blk fun k hk _=>hb.block k hk
theorem BN.fr {D:Nat→Prop}(h:BN W lo hi P T o V v)(hf:Fr D W W')(hd:∀ k,D k→¬ InR lo hi k):BN W' lo hi P T o V v:=h.blk fun k hk hi=>hf.block k hk fun hD=>hd k hD hi
theorem BN.setTR (h:BN W lo hi P T o V v)(ht:TR W' P.m P.g P.cap P.t T')(hf:Fr (D2 P.m P.g) W W')(hi':T'.id=T.id):BN W' lo hi P T' o V v:=by
 have e:∀ k,k<W.heap.size→k≠P.m→k≠P.g→W'.heap[k]?=W.heap[k]?:=fun k hk h1 h2=>hf.block k hk (by rintro (h|h) <;> omega)
 exact⟨by rw[hi'];exact(e _ h.gb.lt h.nb.1 h.nb.2.1).trans h.gb,ht,⟨(e _ h.rl.g.lt h.nm.1.symm h.ng.1.symm).trans h.rl.g,h.rl.ts.blk (e _ h.rl.ts.tb.lt h.nm.2.1.symm h.ng.2.1.symm) (e _ h.rl.ts.vm.lt h.nm.2.2.1.symm h.ng.2.2.1.symm),h.rl.ft.blk (e _ h.rl.ft.g.lt h.nm.2.2.2.1.symm h.ng.2.2.2.1.symm) (e _ h.rl.ft.m.lt h.nm.2.2.2.2.symm h.ng.2.2.2.2.symm),h.rl.nr⟩,h.nb,h.nm,h.ng,h.bi⟩
theorem BN.setTS {p:Nat}(h:BN W lo hi P T o V v)(ht:TS W' P.q 2 P.vm o' V')(ho:Only p W W')(hp:p=P.q∨p=P.vm):BN W' lo hi P T o' V' v:=by
 have nb:=h.nb
 have nm:=h.nm
 have ng:=h.ng
 have nr:=h.rl.nr
 have e:∀ k,k<W.heap.size→k≠P.q→k≠P.vm→W'.heap[k]?=W.heap[k]?:=fun k hk h1 h2=>ho.block k hk (by intro e;injection e with e;rcases hp with rfl|rfl <;> omega)
 exact⟨(e _ h.gb.lt nb.2.2.2.1 nb.2.2.2.2.1).trans h.gb,h.tr.blk (e _ h.tr.tm.lt nm.2.1 nm.2.2.1) (e _ h.tr.row.lt ng.2.1 ng.2.2.1),⟨(e _ h.rl.g.lt nr.1 nr.2.1).trans h.rl.g,ht,h.rl.ft.blk (e _ h.rl.ft.g.lt nr.2.2.2.2.1.symm nr.2.2.2.2.2.2.1.symm) (e _ h.rl.ft.m.lt nr.2.2.2.2.2.1.symm nr.2.2.2.2.2.2.2.symm),nr⟩,nb,nm,ng,h.bi⟩
theorem BN.setRL (h:BN W lo hi P T o V v)(hr:RL W' P.r P.q P.vm P.f P.s 2 o V v')(ho:Only P.f W W'):BN W' lo hi P T o V v':=by
 have e:∀ k,k<W.heap.size→k≠P.f→W'.heap[k]?=W.heap[k]?:=fun k hk h1=>ho.block k hk (by intro e;injection e with e;exact h1 e)
 exact⟨(e _ h.gb.lt h.nb.2.2.2.2.2.1).trans h.gb,h.tr.blk (e _ h.tr.tm.lt h.nm.2.2.2.1) (e _ h.tr.row.lt h.ng.2.2.2.1),hr,h.nb,h.nm,h.ng,h.bi⟩
theorem BN.d2 (h:BN W lo hi P T o V v){W1 W2:World}(hf:Fr (D2 P.m P.g) W1 W2):Fr (InR lo hi) W1 W2:=hf.mono fun k _ hk=>by
 rcases hk with rfl|rfl
 ·exact h.bi.m
 ·exact h.bi.g
theorem BN.on (h:BN W lo hi P T o V v){p:Nat}{W1 W2:World}(hf:Only p W1 W2)(hp:InR lo hi p):Fr (InR lo hi) W1 W2:=Fr.of_only hf hp
end
open Go.Maps (Keyed int_keyed keyOf_int_mk)
theorem u8_keyed:Keyed Tryz.prog 5:=int_keyed Tryz.underlying5
def fEl (v:Value):Option (DataW Unit × List MemPlace) :=
 match v with
 | .func fn first captured=>if first.size=0∧captured.size=0 then(match fn with
  | .func n=>some (.lit (.int .i64 (n:Int)),[])
  | _=>none) else none
 | _=>none
theorem fEl_mk (n:Nat):fEl (.func (.func n) #[] #[])=some (.lit (.int .i64 (n:Int)),[]):=rfl
theorem fEl_inv {v:Value}{y:DataW Unit × List MemPlace}(h:fEl v=some y):∃ n:Nat,v=.func (.func n) #[] #[]∧y.1=.lit (.int .i64 (n:Int)):=by
 unfold fEl at h
 split at h
 ·rename_i fn first captured
  split at h
  ·rename_i hs
   have h1:first=#[]:=Array.eq_empty_of_size_eq_zero hs.1
   have h2:captured=#[]:=Array.eq_empty_of_size_eq_zero hs.2
   subst h1 h2
   split at h
   ·rename_i n
    injection h with h
    exact⟨n,rfl,by rw[←h]⟩
   ·cases h
  ·cases h
 ·cases h
def dsD:DataW Unit:=.map [(.int .u8 1,.lit (.int .i64 159)),(.int .u8 2,.lit (.int .i64 159)),(.int .u8 3,.lit (.int .i64 159)),(.int .u8 4,.lit (.int .i64 159)),(.int .u8 5,.lit (.int .i64 159)),(.int .u8 6,.lit (.int .i64 160)),(.int .u8 7,.lit (.int .i64 161)),(.int .u8 8,.lit (.int .i64 162)),(.int .u8 9,.lit (.int .i64 163)),(.int .u8 10,.lit (.int .i64 163)),(.int .u8 11,.lit (.int .i64 164)),(.int .u8 12,.lit (.int .i64 164))]
def DMap (W:World)(b:Nat):Prop:=W.ownsMap Tryz.prog 5 fEl b 12 dsD
theorem does_any (w:World):Calls Tryz.prog 110 #[] w fun en w'=>∃ b:Nat,en=.returned (.map (some b))∧DMap w' b∧Below w.heap.size w w':=by
 have hm0:=World.ownsMap_made w Tryz.prog 5 fEl
 obtain⟨w1,run1,hm1,hg1⟩:=hm0.update u8_keyed Tryz.underlying274 (by decide) (key:=.int .u8 1) (val:=.func (.func 159) #[] #[]) (kl:=.int .u8 1) (d:=.lit (.int .i64 159)) (ps:=[]) (keyOf_int_mk Tryz.underlying5 (by decide)) (fEl_mk 159)
 obtain⟨w2,run2,hm2,hg2⟩:=hm1.update u8_keyed Tryz.underlying274 (by decide) (key:=.int .u8 2) (val:=.func (.func 159) #[] #[]) (kl:=.int .u8 2) (d:=.lit (.int .i64 159)) (ps:=[]) (keyOf_int_mk Tryz.underlying5 (by decide)) (fEl_mk 159)
 obtain⟨w3,run3,hm3,hg3⟩:=hm2.update u8_keyed Tryz.underlying274 (by decide) (key:=.int .u8 3) (val:=.func (.func 159) #[] #[]) (kl:=.int .u8 3) (d:=.lit (.int .i64 159)) (ps:=[]) (keyOf_int_mk Tryz.underlying5 (by decide)) (fEl_mk 159)
 obtain⟨w4,run4,hm4,hg4⟩:=hm3.update u8_keyed Tryz.underlying274 (by decide) (key:=.int .u8 4) (val:=.func (.func 159) #[] #[]) (kl:=.int .u8 4) (d:=.lit (.int .i64 159)) (ps:=[]) (keyOf_int_mk Tryz.underlying5 (by decide)) (fEl_mk 159)
 obtain⟨w5,run5,hm5,hg5⟩:=hm4.update u8_keyed Tryz.underlying274 (by decide) (key:=.int .u8 5) (val:=.func (.func 159) #[] #[]) (kl:=.int .u8 5) (d:=.lit (.int .i64 159)) (ps:=[]) (keyOf_int_mk Tryz.underlying5 (by decide)) (fEl_mk 159)
 obtain⟨w6,run6,hm6,hg6⟩:=hm5.update u8_keyed Tryz.underlying274 (by decide) (key:=.int .u8 6) (val:=.func (.func 160) #[] #[]) (kl:=.int .u8 6) (d:=.lit (.int .i64 160)) (ps:=[]) (keyOf_int_mk Tryz.underlying5 (by decide)) (fEl_mk 160)
 obtain⟨w7,run7,hm7,hg7⟩:=hm6.update u8_keyed Tryz.underlying274 (by decide) (key:=.int .u8 7) (val:=.func (.func 161) #[] #[]) (kl:=.int .u8 7) (d:=.lit (.int .i64 161)) (ps:=[]) (keyOf_int_mk Tryz.underlying5 (by decide)) (fEl_mk 161)
 obtain⟨w8,run8,hm8,hg8⟩:=hm7.update u8_keyed Tryz.underlying274 (by decide) (key:=.int .u8 8) (val:=.func (.func 162) #[] #[]) (kl:=.int .u8 8) (d:=.lit (.int .i64 162)) (ps:=[]) (keyOf_int_mk Tryz.underlying5 (by decide)) (fEl_mk 162)
 obtain⟨w9,run9,hm9,hg9⟩:=hm8.update u8_keyed Tryz.underlying274 (by decide) (key:=.int .u8 9) (val:=.func (.func 163) #[] #[]) (kl:=.int .u8 9) (d:=.lit (.int .i64 163)) (ps:=[]) (keyOf_int_mk Tryz.underlying5 (by decide)) (fEl_mk 163)
 obtain⟨w10,run10,hm10,hg10⟩:=hm9.update u8_keyed Tryz.underlying274 (by decide) (key:=.int .u8 10) (val:=.func (.func 163) #[] #[]) (kl:=.int .u8 10) (d:=.lit (.int .i64 163)) (ps:=[]) (keyOf_int_mk Tryz.underlying5 (by decide)) (fEl_mk 163)
 obtain⟨w11,run11,hm11,hg11⟩:=hm10.update u8_keyed Tryz.underlying274 (by decide) (key:=.int .u8 11) (val:=.func (.func 164) #[] #[]) (kl:=.int .u8 11) (d:=.lit (.int .i64 164)) (ps:=[]) (keyOf_int_mk Tryz.underlying5 (by decide)) (fEl_mk 164)
 obtain⟨w12,run12,hm12,hg12⟩:=hm11.update u8_keyed Tryz.underlying274 (by decide) (key:=.int .u8 12) (val:=.func (.func 164) #[] #[]) (kl:=.int .u8 12) (d:=.lit (.int .i64 164)) (ps:=[]) (keyOf_int_mk Tryz.underlying5 (by decide)) (fEl_mk 164)
 have hb0:Below w.heap.size w (w.alloc (.map #[] 0)):=bAo _
 have hb1:=hb0.grown hg1 hb0.size (fun k hk=>by injection hk with hk;omega)
 have hb2:=hb1.grown hg2 hb1.size (fun k hk=>by injection hk with hk;omega)
 have hb3:=hb2.grown hg3 hb2.size (fun k hk=>by injection hk with hk;omega)
 have hb4:=hb3.grown hg4 hb3.size (fun k hk=>by injection hk with hk;omega)
 have hb5:=hb4.grown hg5 hb4.size (fun k hk=>by injection hk with hk;omega)
 have hb6:=hb5.grown hg6 hb5.size (fun k hk=>by injection hk with hk;omega)
 have hb7:=hb6.grown hg7 hb6.size (fun k hk=>by injection hk with hk;omega)
 have hb8:=hb7.grown hg8 hb7.size (fun k hk=>by injection hk with hk;omega)
 have hb9:=hb8.grown hg9 hb8.size (fun k hk=>by injection hk with hk;omega)
 have hb10:=hb9.grown hg10 hb9.size (fun k hk=>by injection hk with hk;omega)
 have hb11:=hb10.grown hg11 hb10.size (fun k hk=>by injection hk with hk;omega)
 have hb12:=hb11.grown hg12 hb11.size (fun k hk=>by injection hk with hk;omega)
 have HM:=hd0 hm12
 have HB:=hd0 hb12
 have run0:(Instr.makeMap 274 none).run Tryz.prog w=.ok (.map (some w.heap.size)) (w.alloc (.map #[] 0)):=rfl
 clear hm0 hm1 hm2 hm3 hm4 hm5 hm6 hm7 hm8 hm9 hm10 hm11 hm12 hg1 hg2 hg3 hg4 hg5 hg6 hg7 hg8 hg9 hg10 hg11 hg12 hb0 hb1 hb2 hb3 hb4 hb5 hb6 hb7 hb8 hb9 hb10 hb11 hb12
 go_enter Tryz.func110,Tryz.ntmps110
 go_wp2
 go_ret
 exact⟨_,rfl,HM.out,HB.out⟩
theorem dmap_look {W:World}{q:Nat}(h:DMap W q)(b:Int)(h0:0≤b∧b<256)(n:Nat)(hn:∀ z:DataW Unit,dsD.atKey (.int .u8 b) z=.lit (.int .i64 (n:Int))) :
  (Instr.lookup 274 (.map (some q)) (.int .u8 b) true).run Tryz.prog W=.ok (.tuple #[.func (.func n) #[] #[],.bool true]) W:=by
 obtain⟨es,clock,hb,F,hs,hD⟩:=h
 have hw:(Lit.int .u8 b).wf=true:=by simp[Lit.wf,IntKind.min,IntKind.max,IntKind.bits,IntKind.signed];omega
 have hz:(zeroValue 272).run Tryz.prog W=.ok .nilFunc W:=by kernel_rfl
 rcases Maps.fit_look true u8_keyed Tryz.underlying274 hz hb F (keyOf_int_mk Tryz.underlying5 hw) with⟨hrun,_,hat⟩|⟨e0,y,_,_,hrun,hRv,hat,_⟩
 ·rw[←hD] at hat
  have a:=hat (.lit (.bool false))
  rw[hn] at a
  injection a with a;cases a
 ·rw[←hD] at hat
  have a:=hat (.lit (.bool false))
  rw[hn] at a
  obtain⟨n',hx,hy⟩:=fEl_inv hRv
  rw[hy] at a
  injection a with a
  injection a with _ a
  have e:n=n':=by exact_mod_cast a
  rw[hrun,hx,← e]
  rfl
section
variable {W W':World} {P:BP} {U:List Bool} {o o':List Int} {V V':List Vn} {v:Value} {dr:Int}
end
end Go.Proofs.YtghaobakpdninaaGreatDoor
