/- ZR06 -/
import Derived.Test.YtghaobakpdninaaGreatDoorZR05
set_option linter.unusedVariables false
set_option linter.unusedSimpArgs false
set_option maxRecDepth 100000
set_option maxHeartbeats 16000000
namespace Go.Proofs.YtghaobakpdninaaGreatDoor
open Go.RowKit
structure ST (w0:World)(z q b:Nat)(W:World)(l:List UInt8)(e:Int)(A:Array Value):Prop where
 tk:TK w0 q W l e
 fz:FB W z frZ
 fb:FB W b A
 hz:z<w0.heap.size
 hb:q<b
theorem ST.next {w0 W W':World}{z q b:Nat}{l l':List UInt8}{e e':Int}{A:Array Value}(h:ST w0 z q b W l e A)(hr:Rd W' w0.heap.size l' e')(ho:Only w0.heap.size W W'):ST w0 z q b W' l' e' A :=
 ⟨h.tk.next hr ho,h.fz.only ho (Nat.ne_of_lt h.hz),h.fb.only ho (by have:=h.tk.2.2.2.2;have:=h.hb;omega),h.hz,h.hb⟩
theorem ST.set {w0 W:World}{z q b:Nat}{l:List UInt8}{e:Int}{A:Array Value}(h:ST w0 z q b W l e A)(j:Nat)(v:Value):ST w0 z q b (W.setCell ⟨b,j,none⟩ v) l e (A.setIfInBounds j v):=by
 have h1:=h.tk.2.2.2.2
 have h2:=h.hb
 have h3:=h.hz
 exact⟨h.tk.set (by omega) (by omega) v,h.fz.other (by omega) v,h.fb.set j v,h3,h2⟩
theorem frZ_one:frZ.all (·.oneCell')=true:=by kernel_rfl
theorem frC_one (a b:List UInt8)(t:Bool)(p v y:Int)(d:List UInt8):(frC a b t p v y d).all (·.oneCell')=true:=by simp[frC,Value.oneCell']
theorem all_setI (A:Array Value)(p:Value→Bool)(h:A.all p=true)(j:Nat)(v:Value)(hv:p v=true):(A.setIfInBounds j v).all p=true:=by
 rw[Array.all_eq_true_iff_forall_mem] at *
 intro x hx
 rcases Array.mem_or_eq_of_mem_setIfInBounds hx with h1|h1
 ·exact h x h1
 ·rw[h1];exact hv
theorem below_cells {B b:Nat}{w:World}(hb:B≤b):∀ (vs:List Value) (o:Nat) (W:World),Below B w W→Below B w (W.setCells b o vs)
 |[],_,_,h=>h
 | v::r,o,W,h=>below_cells hb r (o+1) _ (below_set h hb v)
theorem rdFail_le (l:List UInt8)(e n:Int):(rdFail l e n).1.length≤l.length:=by
 unfold rdFail
 split <;> simp
theorem ftake_any (s:List UInt8)(w:World)(hl:s.length≤100000):Calls Tryz.prog 103 #[.string (bs s)] w fun en w'=>en=.returned (.tuple #[.agg (tkF s).1,.int .i64 (tkF s).2])∧Below w.heap.size w w':=by
 have hsz:=bs_size s
 obtain⟨R,hR⟩:∃ R,tkF s=R:=⟨_,rfl⟩
 have HR:=hd0 hR
 rw[hR];clear hR
 have HI:∀ A:Array Value,A.size=17→(Tryz.prog.info? 264).map (·.size)=some A.size:=fun A hA=>by rw[hA];kernel_rfl
 by_cases h15:1522<s.length
 ·have d15:decide ((1522:Int)<(s.length:Int))=true:=decide_eq_true (by omega)
  have hRR:R=(frZ,5):=by rw[←HR.out];unfold tkF;rw[if_pos h15]
  have HRR:=hd0 hRR
  clear hRR h15
  go_enter Tryz.func103,Tryz.ntmps103
  go_wp2_with fail
  refine bodyPost_ret (v:=.tuple #[.agg frZ,.int .i64 5]) (res_frame _ _ w.heap.size frZ rfl (FB.new w frZ) rfl) rfl ⟨by rw[HRR.out],bAo _⟩
 have d15:decide ((1522:Int)<(s.length:Int))=false:=decide_eq_false (by omega)
 obtain⟨a,l1,e1,h1⟩:∃ a l1 e1,fr1 s=(a,l1,e1):=⟨_,_,_,rfl⟩
 obtain⟨b,l2,e2,h2⟩:∃ a l1 e1,fr2 s=(a,l1,e1):=⟨_,_,_,rfl⟩
 obtain⟨y0,l3,e3,h3⟩:∃ y l e,numOf (fr3 s).1=y∧(fr3 s).2.1=l∧(fr3 s).2.2=e:=⟨_,_,_,rfl,rfl,rfl⟩
 have n1:l1.length≤s.length:=by have:=rd_le s 0 6;rw[show rdText s 0 6=fr1 s from rfl,h1] at this;exact this
 have n2:l2.length≤l1.length:=by have:=rd_le l1 e1 6;rw[show rdText l1 e1 6=fr2 s by unfold fr2;rw[h1],h2] at this;exact this
 have n3:l3.length≤l2.length:=by have:=rd_le l2 e2 2;rw[show rdText l2 e2 2=fr3 s by unfold fr3;rw[h2],h3.2.1] at this;exact this
 have C1:Hid (∀ w p q,Rd w p s 0→w.cell? ⟨q,0,none⟩=some (.pointer (some ⟨p,0,none⟩))→q<w.heap.size→q≠p→Calls Tryz.prog 143 #[.pointer (some ⟨q,0,none⟩)] w fun en w'=>en=.returned (.agg #[.int .u8 (adI a 0),.int .u8 (adI a 1),.int .u8 (adI a 2),.int .u8 (adI a 3),.int .u8 (adI a 4),.int .u8 (adI a 5)])∧Rd w' p l1 e1∧Only p w w'):=fun w p q hr hc hq hne=>by
  have h:=addr_any q p s 0 w hr hc hq hne (by omega)
  rw[show rdText s 0 6=(a,l1,e1) from h1] at h;exact h
 have C2:Hid (∀ w p q,Rd w p l1 e1→w.cell? ⟨q,0,none⟩=some (.pointer (some ⟨p,0,none⟩))→q<w.heap.size→q≠p→Calls Tryz.prog 143 #[.pointer (some ⟨q,0,none⟩)] w fun en w'=>en=.returned (.agg #[.int .u8 (adI b 0),.int .u8 (adI b 1),.int .u8 (adI b 2),.int .u8 (adI b 3),.int .u8 (adI b 4),.int .u8 (adI b 5)])∧Rd w' p l2 e2∧Only p w w'):=fun w p q hr hc hq hne=>by
  have h:=addr_any q p l1 e1 w hr hc hq hne (by omega)
  rw[show rdText l1 e1 6=(b,l2,e2) by rw[←h2];unfold fr2;rw[h1]] at h;exact h
 have C3:Hid (∀ w p,Rd w p l2 e2→Calls Tryz.prog 145 #[.pointer (some ⟨p,0,none⟩)] w fun en w'=>en=.returned (.int .u16 y0)∧Rd w' p l3 e3∧Only p w w'):=fun w p hr=>by
  have h:=U16_any p l2 e2 w hr (by omega)
  have e:rdText l2 e2 2=fr3 s:=by unfold fr3;rw[h2]
  rw[e,h3.1,h3.2.1,h3.2.2] at h;exact h
 go_enter Tryz.func103,Tryz.ntmps103
 go_wp2_with fail
 obtain⟨w0,hw0⟩:∃ w0,w.alloc (.cells #[.int .u8 0,.int .u8 0,.int .u8 0,.int .u8 0,.int .u8 0,.int .u8 0,.int .u8 0,.int .u8 0,.int .u8 0,.int .u8 0,.int .u8 0,.int .u8 0,.bool false,.int .u8 0,.int .u16 0,.int .u16 0,.string { data:=#[] }] 264)=w0:=⟨_,rfl⟩
 have fz0:FB w0 w.heap.size frZ:=by rw[←hw0];exact FB.new w frZ
 have hb0:Below w.heap.size w w0:=by rw[←hw0];exact bAo _
 have hz0:w0.heap.size=w.heap.size+1:=by rw[←hw0];simp
 rw[hw0]
 clear hw0
 with_reducible refine(of_any s w0).mono ?_
 rintro en w1 ⟨rfl,hr,hb,hlt⟩
 have tk0:TK w0 w1.heap.size (w1.alloc (.cells #[.pointer (some ⟨w0.heap.size,0,none⟩)] 330)) s 0 :=
  ⟨hr.later (bAo _),by simp[go_sem],hb.alloc hb.size _,by simp,hlt⟩
 have TK0:=hd0 tk0
 have HLT:=hd0 hlt
 have HZ0:=hd0 hz0
 have fz1:FB (w1.alloc (.cells #[.pointer (some ⟨w0.heap.size,0,none⟩)] 330)) w.heap.size frZ:=(fz0.later hb).alloc _
 have FZ0:=hd0 fz1
 have HB0:=hd0 hb0
 have H3:=hd0 h3
 have hf1:(fr1 s).1=a:=by rw[h1]
 have hf2:(fr2 s).1=b:=by rw[h2]
 have HF1:=hd0 hf1
 have HF2:=hd0 hf2
 have cq0:=tk0.ptr
 clear tk0 hr hb hlt hz0 fz0 fz1 hb0 h3 h1 h2 hf1 hf2
 go_wp2_with fail
 with_reducible refine(C1.out _ _ _ TK0.out.rd cq0 TK0.out.lt TK0.out.ne).mono ?_
 rintro en w2 ⟨rfl,hr2,ho2⟩
 have TK2:=hd0 (TK0.out.next hr2 ho2)
 have FZ2:=hd0 (FZ0.out.only ho2 (by have:=HZ0.out;omega))
 have cq2:=TK2.out.ptr
 clear hr2 ho2 cq0 TK0
 go_wp2_with fail
 with_reducible refine(C2.out _ _ _ TK2.out.rd cq2 TK2.out.lt TK2.out.ne).mono ?_
 rintro en w3 ⟨rfl,hr3,ho3⟩
 have TK3:=hd0 (TK2.out.next hr3 ho3)
 have FZ3:=hd0 (FZ2.out.only ho3 (by have:=HZ0.out;omega))
 clear hr3 ho3 cq2 TK2
 go_upto_region 6 with fail
 obtain⟨A0,hA0⟩:∃ A0,frC a b false 0 0 0 []=A0:=⟨_,rfl⟩
 have fb4:FB (w3.alloc (.cells A0 264)) w3.heap.size A0:=FB.new _ _
 have st4:ST w0 w.heap.size w1.heap.size w3.heap.size (w3.alloc (.cells A0 264)) l2 e2 A0:=⟨TK3.out.alloc _,FZ3.out.alloc _,fb4,by have:=HZ0.out;omega,TK3.out.lt⟩
 have hw4:w3.alloc (.cells (frC a b false 0 0 0 []) 264)=w3.alloc (.cells A0 264):=by rw[hA0]
 simp only[frC] at hw4
 rw[show bs []={ data:=#[] } from rfl] at hw4
 rw[hw4]
 obtain⟨q4,hq4⟩:∃ k,w3.heap.size=k:=⟨_,rfl⟩
 obtain⟨w4,hw4'⟩:∃ k,w3.alloc (.cells A0 264)=k:=⟨_,rfl⟩
 rw[hw4'] at st4 ⊢
 rw[hq4] at st4 ⊢
 have ST4:=hd0 st4
 have HA0:=hd0 hA0
 have ON0:Hid (A0.all (·.oneCell')=true):=hd0 (by rw[←hA0];exact frC_one _ _ _ _ _ _ _)
 clear hw4 hw4' hq4 fb4 st4 hA0 TK3 FZ3
 have cq4:=ST4.out.tk.ptr
 go_wp2_with fail
 with_reducible refine(C3.out _ _ ST4.out.tk.rd).mono ?_
 rintro en w5 ⟨rfl,hr5,ho5⟩
 have ST5:=hd0 (ST4.out.next hr5 ho5)
 have fr5:=ST5.out.fb.free 15
 have c5:=ST5.out.fb.c 15 (.int .u16 0) (by rw[←HA0.out];rfl)
 clear hr5 ho5 cq4 ST4
 go_upto_region 7 with fail
 have st6:=ST5.out.set 15 (.int .u16 y0)
 obtain⟨A1,hA1⟩:∃ A1,A0.setIfInBounds 15 (.int .u16 y0)=A1:=⟨_,rfl⟩
 obtain⟨w6,hw6⟩:∃ k,w5.setCell ⟨q4,15,none⟩ (.int .u16 y0)=k:=⟨_,rfl⟩
 rw[hA1,hw6] at st6
 rw[hw6]
 have ST6:=hd0 st6
 have HA1:=hd0 hA1
 have on1:A1.all (·.oneCell')=true:=by rw[←hA1];exact all_setI _ _ ON0.out _ _ rfl
 have ON1:=hd0 on1
 clear on1
 have y0b:0≤y0∧y0<65536:=by rw[←H3.out.1];exact⟨(numOf_bd _).1,numOf_lt _ 2 65536 (rdText_len _ _ 2) rfl⟩
 have c15:w6.cell? ⟨q4,15,none⟩=some (.int .u16 y0):=st6.fb.c 15 (.int .u16 y0) (by rw[←hA1,← HA0.out];rfl)
 have cq6:=st6.tk.ptr
 have N3:l3.length≤s.length:=by omega
 clear hw6 hA1 st6 fr5 c5 ST5
 go_upto_if 26 with fail
 go_cut [] (fun wx=>∃ l e A,Hid (ST w0 w.heap.size w1.heap.size q4 wx l e A)∧Hid (R=if (rdRest l e).2.2=0 then(A.setIfInBounds 16 (.string (bs (rdRest l e).1)),0) else(frZ,(rdRest l e).2.2))∧Hid (l.length≤s.length)∧Hid (A.size=17)∧Hid (A[16]?=some (.string { data:=#[] }))∧Hid (A.all (·.oneCell')=true))
 case first =>
  by_cases hy:y0=33024
  ·have dy:(y0==33024)=true:=by rw[beq_iff_eq];exact hy
   have HY:=hd0 hy
   clear hy
   obtain⟨y1,l4,e4,h4⟩:∃ y l e,numOf (rdText l3 e3 2).1=y∧(rdText l3 e3 2).2.1=l∧(rdText l3 e3 2).2.2=e:=⟨_,_,_,rfl,rfl,rfl⟩
   have n4:l4.length≤l3.length:=by have:=rd_le l3 e3 2;rw[h4.2.1] at this;exact this
   have y1b:0≤y1∧y1<65536:=by rw[←h4.1];exact⟨(numOf_bd _).1,numOf_lt _ 2 65536 (rdText_len _ _ 2) rfl⟩
   have C4:Hid (∀ w p,Rd w p l3 e3→Calls Tryz.prog 145 #[.pointer (some ⟨p,0,none⟩)] w fun en w'=>en=.returned (.int .u16 y1)∧Rd w' p l4 e4∧Only p w w'):=fun w p hr=>by
    have h:=U16_any p l3 e3 w hr (by omega)
    rw[h4.1,h4.2.1,h4.2.2] at h;exact h
   have H4:=hd0 h4
   clear h4
   go_wp2_with fail
   with_reducible refine(C4.out _ _ ST6.out.tk.rd).mono ?_
   rintro en w7 ⟨rfl,hr7,ho7⟩
   have ST7:=hd0 (ST6.out.next hr7 ho7)
   clear hr7 ho7 cq6 ST6 c15
   have f12:=ST7.out.fb.free 12
   have f13:=ST7.out.fb.free 13
   have f14:=ST7.out.fb.free 14
   have c12:=ST7.out.fb.c 12 (.bool false) (by rw[←HA1.out,← HA0.out];rfl)
   have c13:=ST7.out.fb.c 13 (.int .u8 0) (by rw[←HA1.out,← HA0.out];rfl)
   have c14:=ST7.out.fb.c 14 (.int .u16 0) (by rw[←HA1.out,← HA0.out];rfl)
   go_upto_region 10 with fail
   have st8:=((ST7.out.set 12 (.bool true)).set 13 (.int .u8 (y1 / 8192))).set 14 (.int .u16 (y1 % 4096))
   obtain⟨A2,hA2⟩:∃ A2,((A1.setIfInBounds 12 (.bool true)).setIfInBounds 13 (.int .u8 (y1 / 8192))).setIfInBounds 14 (.int .u16 (y1 % 4096))=A2:=⟨_,rfl⟩
   obtain⟨w8,hw8⟩:∃ k,((w7.setCell ⟨q4,12,none⟩ (.bool true)).setCell ⟨q4,13,none⟩ (.int .u8 (y1 / 8192))).setCell ⟨q4,14,none⟩ (.int .u16 (y1 % 4096))=k:=⟨_,rfl⟩
   rw[hA2,hw8] at st8
   rw[hw8]
   have ST8:=hd0 st8
   have HA2:=hd0 hA2
   have on2:A2.all (·.oneCell')=true:=by rw[←hA2];exact all_setI _ _ (all_setI _ _ (all_setI _ _ ON1.out _ _ rfl) _ _ rfl) _ _ rfl
   have ON2:=hd0 on2
   clear on2
   have cq8:=st8.tk.ptr
   clear hw8 hA2 st8 f12 f13 f14 c12 c13 c14 ST7
   obtain⟨l5,e5,hb5⟩:∃ l e,(if y1 / 4096 % 2=1 then rdFail l4 e4 4 else(l4,e4))=(l,e):=⟨_,_,rfl⟩
   have n5:l5.length≤l4.length:=by
    by_cases hf:y1 / 4096 % 2=1
    ·rw[if_pos hf] at hb5
     have:=rdFail_le l4 e4 4;rw[hb5] at this;exact this
    ·rw[if_neg hf] at hb5;injection hb5 with h1 h2;rw[h1];exact Nat.le_refl _
   obtain⟨y2,l6,e6,h6⟩:∃ y l e,numOf (rdText l5 e5 2).1=y∧(rdText l5 e5 2).2.1=l∧(rdText l5 e5 2).2.2=e:=⟨_,_,_,rfl,rfl,rfl⟩
   have n6:l6.length≤l5.length:=by have:=rd_le l5 e5 2;rw[h6.2.1] at this;exact this
   have C6:Hid (∀ w p,Rd w p l5 e5→Calls Tryz.prog 145 #[.pointer (some ⟨p,0,none⟩)] w fun en w'=>en=.returned (.int .u16 y2)∧Rd w' p l6 e6∧Only p w w'):=fun w p hr=>by
    have h:=U16_any p l5 e5 w hr (by omega)
    rw[h6.1,h6.2.1,h6.2.2] at h;exact h
   have hfin:R=if (rdRest l6 e6).2.2=0 then((A2.setIfInBounds 15 (.int .u16 y2)).setIfInBounds 16 (.string (bs (rdRest l6 e6).1)),0) else(frZ,(rdRest l6 e6).2.2):=by
    have e3':numOf (fr3 s).1=33024:=H3.out.1.trans HY.out
    have e4':rdText (fr3 s).2.1 (fr3 s).2.2 2=rdText l3 e3 2:=by rw[H3.out.2.1,H3.out.2.2]
    have eb':fr4b s=(l5,e5):=by
     unfold fr4b fr4;rw[e4',H4.out.1,H4.out.2.1,H4.out.2.2];exact hb5
    have e5':fr5 s=rdText l5 e5 2:=by unfold fr5;rw[eb']
    rw[←HR.out];unfold tkF
    rw[if_neg h15,if_pos e3',e5',h6.1,h6.2.1,h6.2.2]
    unfold fr4
    rw[e4',H4.out.1,HF1.out,HF2.out,← HA2.out,← HA1.out,← HA0.out]
    rfl
   have HFIN:=hd0 hfin
   have hlen:l6.length≤s.length:=by omega
   have HLEN:=hd0 hlen
   have hsz2:A2.size=17:=by rw[←HA2.out,← HA1.out,← HA0.out];rfl
   have HSZ:=hd0 hsz2
   have c15:∀ W,FB W q4 A2→W.cell? ⟨q4,15,none⟩=some (.int .u16 y0):=fun W h=>h.c 15 (.int .u16 y0) (by rw[←HA2.out,← HA1.out,← HA0.out];rfl)
   have C15:=hd0 c15
   clear h6 hfin hlen hsz2 c15
   by_cases hf:y1 / 4096 % 2=1
   ·have hand:bits .and .u16 y1 4096=4096:=by rw[and_free y1 y1b.1 y1b.2,hf];rfl
    rw[if_pos hf] at hb5
    have HB5:Hid (∀ w p,Rd w p l4 e4→Calls Tryz.prog 146 #[.pointer (some ⟨p,0,none⟩)] w fun en w'=>en=.returned (.tuple #[])∧Rd w' p l5 e5∧Only p w w'):=fun w p hr=>by
     have h:=bad_any p l4 e4 w hr
     rw[hb5] at h;exact h
    clear hb5 hf
    go_wp2_with fail
    with_reducible refine(HB5.out _ _ ST8.out.tk.rd).mono ?_
    rintro en w9 ⟨rfl,hr9,ho9⟩
    have ST9:=hd0 (ST8.out.next hr9 ho9)
    have cq9:=ST9.out.tk.ptr
    clear hr9 ho9 cq8 ST8
    go_wp2_with fail
    with_reducible refine(C6.out _ _ ST9.out.tk.rd).mono ?_
    rintro en wa ⟨rfl,hra,hoa⟩
    have STa:=hd0 (ST9.out.next hra hoa)
    have fra:=STa.out.fb.free 15
    have ca:=C15.out _ STa.out.fb
    clear hra hoa cq9 ST9
    go_wp2_with fail
    go_meet
    exact⟨l6,e6,_,hd0 (STa.out.set 15 (.int .u16 y2)),HFIN,HLEN,hd0 (by rw[Array.size_setIfInBounds];exact HSZ.out),hd0 (by rw[←HA2.out,← HA1.out,← HA0.out];rfl),hd0 (all_setI _ _ ON2.out _ _ rfl)⟩
   ·have hand:bits .and .u16 y1 4096=0:=by rw[and_free y1 y1b.1 y1b.2,show y1 / 4096 % 2=0 by omega];rfl
    rw[if_neg hf] at hb5
    injection hb5 with hb6 hb7
    have S8:Hid (ST w0 w.heap.size w1.heap.size q4 w8 l5 e5 A2):=hd0 (by rw[←hb6,← hb7];exact ST8.out)
    clear hb6 hb7 hf
    go_wp2_with fail
    with_reducible refine(C6.out _ _ S8.out.tk.rd).mono ?_
    rintro en wa ⟨rfl,hra,hoa⟩
    have STa:=hd0 (S8.out.next hra hoa)
    have fra:=STa.out.fb.free 15
    have ca:=C15.out _ STa.out.fb
    clear hra hoa cq8 S8 ST8
    go_wp2_with fail
    go_meet
    exact⟨l6,e6,_,hd0 (STa.out.set 15 (.int .u16 y2)),HFIN,HLEN,hd0 (by rw[Array.size_setIfInBounds];exact HSZ.out),hd0 (by rw[←HA2.out,← HA1.out,← HA0.out];rfl),hd0 (all_setI _ _ ON2.out _ _ rfl)⟩
  ·have dy:(y0==33024)=false:=by rw[beq_eq_false_iff_ne];exact hy
   have hfin:R=if (rdRest l3 e3).2.2=0 then(A1.setIfInBounds 16 (.string (bs (rdRest l3 e3).1)),0) else(frZ,(rdRest l3 e3).2.2):=by
    have e3':¬ numOf (fr3 s).1=33024:=by rw[H3.out.1];exact hy
    rw[←HR.out];unfold tkF
    rw[if_neg h15,if_neg e3',H3.out.1,H3.out.2.1,H3.out.2.2,HF1.out,HF2.out,← HA1.out,← HA0.out]
    rfl
   have HFIN:=hd0 hfin
   clear hfin hy
   go_wp2_with fail
   go_meet
   exact⟨l3,e3,_,ST6,HFIN,hd0 N3,hd0 (by rw[←HA1.out,← HA0.out];rfl),hd0 (by rw[←HA1.out,← HA0.out];rfl),ON1⟩
 case rest =>
  obtain⟨l,e,A,STf,FIN,NL,SZ,C16,ONE⟩:=hcut
  have hlw:l.length≤9223372036854775807:=by have:=NL.out;omega
  obtain⟨d,l7,e7,h7⟩:∃ d l7 e7,rdRest l e=(d,l7,e7):=⟨_,_,_,rfl⟩
  have hF:=FIN.out
  rw[h7] at hF
  have FIN2:=hd0 hF
  have C7:Hid (∀ w p,Rd w p l e→Calls Tryz.prog 147 #[.pointer (some ⟨p,0,none⟩)] w fun en w'=>en=.returned (.string (bs d))∧Rd w' p l7 e7∧Only p w w'):=fun w p hr=>by
   have h:=rest_any p l e w hr hlw
   rw[h7] at h;exact h
  clear hF FIN h7 cq6 ST6 c15
  have cqf:=STf.out.tk.ptr
  go_wp2_with fail
  with_reducible refine(C7.out _ _ STf.out.tk.rd).mono ?_
  rintro en wb ⟨rfl,hrb,hob⟩
  have STb:=hd0 (STf.out.next hrb hob)
  have frb:=STb.out.fb.free 16
  have cb:=STb.out.fb.c 16 _ C16.out
  clear hrb hob cqf STf
  go_upto_region 14 with fail
  have st9:=STb.out.set 16 (.string (bs d))
  obtain⟨A9,hA9⟩:∃ A9,A.setIfInBounds 16 (.string (bs d))=A9:=⟨_,rfl⟩
  obtain⟨w9,hw9⟩:∃ k,wb.setCell ⟨q4,16,none⟩ (.string (bs d))=k:=⟨_,rfl⟩
  have FIN3:Hid (R=if e7=0 then(A9,0) else(frZ,e7)):=by
   have:=FIN2.out
   rw[hA9] at this
   exact hd0 this
  have SZ9:Hid (A9.size=17):=by
   have:=SZ.out
   rw[←Array.size_setIfInBounds (xs:=A) (i:=16) (a:=Value.string (bs d)),hA9] at this
   exact hd0 this
  have hA1:A9.all (·.oneCell')=true:=by rw[←hA9];exact all_setI _ _ ONE.out _ _ rfl
  rw[hA9,hw9] at st9
  rw[hw9]
  have ST9:=hd0 st9
  clear st9 hw9 hA9 frb cb STb FIN2
  have cq9:=ST9.out.tk.ptr
  go_wp2_with fail
  with_reducible refine(err_any _ _ _ _ ST9.out.tk.rd).mono ?_
  rintro en wc ⟨rfl,rfl⟩
  have FZ:=ST9.out.fz
  have FBq:=ST9.out.fb
  have BW:Below w.heap.size w w9:=HB0.out.trans (ST9.out.tk.2.2.1.mono (by have:=HZ0.out;omega))
  have H16:w9.there w.heap.size 0 frZ.size:=FZ.there (Nat.le_refl _)
  have H17:w9.there w.heap.size 0 A9.size:=FZ.there (by rw[SZ9.out];exact Nat.le_refl _)
  have HIA:=HI A9 SZ9.out
  have HIL:(Tryz.prog.info? 264).map (·.size)=some A9.toList.length:=by rw[Array.length_toList];exact HIA
  have HIZ:=HI frZ rfl
  have hZ1:=frZ_one
  by_cases he:e7=0
  ·have de:(e7 != 0)=false:=by rw[he];rfl
   have hRR:R=(A9,0):=by rw[FIN3.out,if_pos he]
   have HRR:=hd0 hRR
   clear hRR
   go_wp2_with (first|((with_reducible refine wpList_load_mid rfl 264 (.tmp 6) rfl q4 0 ?hx A9.toList _ FBq.range Tryz.underlying264 ?hu HIL ?_);(case hx=>rfl);(case hu=>rfl))|((with_reducible refine wpList_store_mid rfl 264 (.tmp 2) (.tmp 54) rfl w.heap.size 0 A9 ?hx ?hy H17 HIA hA1 ?_);(case hx=>rfl);(case hy=>rfl)))
   refine bodyPost_ret (v:=.tuple #[.agg A9,.int .i64 0]) (res_frame _ _ w.heap.size A9 rfl (FZ.store (by rw[SZ9.out];rfl) hA1) SZ9.out) rfl ⟨by rw[HRR.out],below_cells (Nat.le_refl _) _ _ _ BW⟩
  ·have de:(e7 != 0)=true:=by rw[bne_iff_ne];exact he
   have hRR:R=(frZ,e7):=by rw[FIN3.out,if_neg he]
   have HRR:=hd0 hRR
   clear hRR
   go_wp2_with ((with_reducible refine wpList_store_mid rfl 264 (.tmp 2) (.tmp 52) rfl w.heap.size 0 frZ ?hx ?hy H16 HIZ hZ1 ?_);(case hx=>rfl);(case hy=>rfl))
   refine bodyPost_ret (v:=.tuple #[.agg frZ,.int .i64 e7]) (res_frame _ _ w.heap.size frZ rfl (FZ.store rfl hZ1) rfl) rfl ⟨by rw[HRR.out],below_cells (Nat.le_refl _) _ _ _ BW⟩
def isFr (A:Array Value):Prop:=∃ x0 x1 x2 x3 x4 x5 x6 x7 x8 x9 x10 x11 xt xp xv xy xd,A=#[.int .u8 x0,.int .u8 x1,.int .u8 x2,.int .u8 x3,.int .u8 x4,.int .u8 x5,.int .u8 x6,.int .u8 x7,.int .u8 x8,.int .u8 x9,.int .u8 x10,.int .u8 x11,.bool xt,.int .u8 xp,.int .u16 xv,.int .u16 xy,.string (bs xd)]
theorem isFr_Z:isFr frZ:=⟨_,_,_,_,_,_,_,_,_,_,_,_,_,_,_,_,[],rfl⟩
theorem isFr.size {A:Array Value}(h:isFr A):A.size=17:=by
 obtain⟨x0,x1,x2,x3,x4,x5,x6,x7,x8,x9,x10,x11,xt,xp,xv,xy,xd,rfl⟩:=h;rfl
theorem isFr.one {A:Array Value}(h:isFr A):A.all (·.oneCell')=true:=by
 obtain⟨x0,x1,x2,x3,x4,x5,x6,x7,x8,x9,x10,x11,xt,xp,xv,xy,xd,rfl⟩:=h
 simp[Value.oneCell']
theorem frame_info {A:Array Value}(h:isFr A):(Tryz.prog.info? 264).map (·.size)=some A.size:=by rw[h.size];kernel_rfl
theorem frame_infoL {A:Array Value}(h:isFr A):(Tryz.prog.info? 264).map (·.size)=some A.toList.length:=by rw[Array.length_toList,h.size];kernel_rfl
theorem fr_there (W:World){A:Array Value}(h:isFr A):(W.alloc (.cells #[.int .u8 0,.int .u8 0,.int .u8 0,.int .u8 0,.int .u8 0,.int .u8 0,.int .u8 0,.int .u8 0,.int .u8 0,.int .u8 0,.int .u8 0,.int .u8 0,.bool false,.int .u8 0,.int .u16 0,.int .u16 0,.string { data:=#[] }] 264)).there W.heap.size 0 A.size:=(FB.new W frZ).there (by rw[h.size];exact Nat.le_refl _)
theorem fr_stored (W:World){A:Array Value}(h:isFr A):FB ((W.alloc (.cells #[.int .u8 0,.int .u8 0,.int .u8 0,.int .u8 0,.int .u8 0,.int .u8 0,.int .u8 0,.int .u8 0,.int .u8 0,.int .u8 0,.int .u8 0,.int .u8 0,.bool false,.int .u8 0,.int .u16 0,.int .u16 0,.string { data:=#[] }] 264)).setCells W.heap.size 0 A.toList) W.heap.size A:=(FB.new W frZ).store (by rw[h.size];rfl) h.one
theorem fr_load {W:World}{b:Nat}{A:Array Value}(h:FB W b A)(hf:isFr A)(k:Later W):(Instr.loadAt 264 (.pointer (some ⟨b,0,none⟩))).run Tryz.prog k.out=.ok (.agg A) k.out:=by
 have:=run_loadAt_mid (P:=Tryz.prog) k.out b 0 264 A.toList _ (h.later k.h).range Tryz.underlying264 rfl (frame_infoL hf)
 simpa using this
theorem wpQuiet_load {P:Program}{ops:Array Oper}{C:World→Prop}{Q:Act→Prop}{o:Oper}{rest:List Oper}{a:Act}(ty:TypeId)(x:Operand)(b:Nat)(A:Array Value)(hw:Region.wanted o (yielded ops a.tmps)=true)(ho:o.op=.load ty x)
  (hx:a.eval x=.pointer (some ⟨b,0,none⟩)) (hl:∀ w,C w→(Instr.loadAt ty (.pointer (some ⟨b,0,none⟩))).run P w=.ok (.agg A) w) (h:wpQuiet P ops C Q rest (a.put o.dst (.agg A))):wpQuiet P ops C Q (o::rest) a:=by
 rw[wpQuiet,if_pos hw]
 refine⟨.agg A,fun w hc=>?_,h⟩
 unfold Oper.quietAt execOp
 simp only[ho,hx,Sem.run_bind,hl w hc,Result.andThen_ok,Sem.run_pure]
 exact⟨rfl,rfl⟩
def frA (x0 x1 x2 x3 x4 x5 x6 x7 x8 x9 x10 x11:Int)(xt:Bool)(xp xv xy:Int)(xd:List UInt8):Array Value:=#[.int .u8 x0,.int .u8 x1,.int .u8 x2,.int .u8 x3,.int .u8 x4,.int .u8 x5,.int .u8 x6,.int .u8 x7,.int .u8 x8,.int .u8 x9,.int .u8 x10,.int .u8 x11,.bool xt,.int .u8 xp,.int .u16 xv,.int .u16 xy,.string (bs xd)]
def unB (V:List Vn)(p:Nat)(k:Int):Bool:=decide ((vGet V k).2 / 2 ^ p % 2=1)
def outT (u:Bool):Bool:=!u
def outP (u:Bool)(pr:Int):Int:=if u=true then 0 else pr
def outV (u:Bool)(k:Int):Int:=if u=true then 0 else k
def outF (V:List Vn)(p:Nat)(k:Int)(x0 x1 x2 x3 x4 x5 x6 x7 x8 x9 x10 x11:Int)(xt:Bool)(xp xv xy:Int)(xd:List UInt8):Array Value × Bool :=
 if memB (vGet V k).1 p=true then
  (if (putF x0 x1 x2 x3 x4 x5 x6 x7 x8 x9 x10 x11 (outT (unB V p k)) (outP (unB V p k) xp) (outV (unB V p k) k) xy xd).2=0 then(frA x0 x1 x2 x3 x4 x5 x6 x7 x8 x9 x10 x11 (outT (unB V p k)) (outP (unB V p k) xp) (outV (unB V p k) k) xy xd,true) else(frZ,false))
 else(frZ,false)
theorem FB.set12 {W:World}{b:Nat}{x0 x1 x2 x3 x4 x5 x6 x7 x8 x9 x10 x11 xt xp xv xy xd}(h:FB W b (frA x0 x1 x2 x3 x4 x5 x6 x7 x8 x9 x10 x11 xt xp xv xy xd))(d:Bool):FB (W.setCell ⟨b,12,none⟩ (.bool d)) b (frA x0 x1 x2 x3 x4 x5 x6 x7 x8 x9 x10 x11 d xp xv xy xd):=by
 have:=h.set 12 (.bool d);simpa [frA] using this
theorem FB.set13 {W:World}{b:Nat}{x0 x1 x2 x3 x4 x5 x6 x7 x8 x9 x10 x11 xt xp xv xy xd}(h:FB W b (frA x0 x1 x2 x3 x4 x5 x6 x7 x8 x9 x10 x11 xt xp xv xy xd))(d:Int):FB (W.setCell ⟨b,13,none⟩ (.int .u8 d)) b (frA x0 x1 x2 x3 x4 x5 x6 x7 x8 x9 x10 x11 xt d xv xy xd):=by
 have:=h.set 13 (.int .u8 d);simpa [frA] using this
theorem FB.set14 {W:World}{b:Nat}{x0 x1 x2 x3 x4 x5 x6 x7 x8 x9 x10 x11 xt xp xv xy xd}(h:FB W b (frA x0 x1 x2 x3 x4 x5 x6 x7 x8 x9 x10 x11 xt xp xv xy xd))(d:Int):FB (W.setCell ⟨b,14,none⟩ (.int .u16 d)) b (frA x0 x1 x2 x3 x4 x5 x6 x7 x8 x9 x10 x11 xt xp d xy xd):=by
 have:=h.set 14 (.int .u16 d);simpa [frA] using this
theorem res_out (tmps:Array Value)(W:World)(b:Nat)(A:Array Value)(h2:tmps.getD 8 undef=.pointer (some ⟨b,0,none⟩))(hf:FB W b A)(hs:A.size=17) :
  (results Tryz.f253 tmps).run Tryz.prog W=.ok (.tuple #[.agg A,tmps.getD 9 undef]) W:=by
 have hi:(Tryz.prog.info? 264).map (·.size)=some A.size:=by rw[hs];kernel_rfl
 rw[results_cell_tmp (p:=8) (u:=9) (ty:=264) rfl,h2]
 simp[asAddr,run_loadVar_row W b 264 264 A (0,0) _ hf Tryz.underlying264 rfl hi]
structure OS (w W:World)(A:Array Value):Prop where
 f:FB W w.heap.size A
 z:FB W (w.heap.size+1) frZ
 bel:Below w.heap.size w W
theorem OS.later {w W W':World}{A:Array Value}(h:OS w W A)(hb:Below W.heap.size W W'):OS w W' A:=⟨h.f.later hb,h.z.later hb,h.bel.trans (hb.mono h.bel.size)⟩
theorem frA_is (x0 x1 x2 x3 x4 x5 x6 x7 x8 x9 x10 x11 xt xp xv xy xd):isFr (frA x0 x1 x2 x3 x4 x5 x6 x7 x8 x9 x10 x11 xt xp xv xy xd):=⟨_,_,_,_,_,_,_,_,_,_,_,_,_,_,_,_,_,rfl⟩
theorem vout_any (q m:Nat)(n:Int)(o:List Int)(V:List Vn)(p:Nat)(k:Int)(x0 x1 x2 x3 x4 x5 x6 x7 x8 x9 x10 x11 xt xp xv xy xd)(w:World)(hs:TS w q n m o V)(hp:p<256)(hk:0≤k∧k<65536)(hw:wfF x0 x1 x2 x3 x4 x5 x6 x7 x8 x9 x10 x11 xp xv xy)(hd:xd.length≤1000000) :
  Calls Tryz.prog 253 #[.pointer (some ⟨q,0,none⟩),.int .u8 (p:Int),.int .u16 k,.agg (frA x0 x1 x2 x3 x4 x5 x6 x7 x8 x9 x10 x11 xt xp xv xy xd)] w fun en w'=>en=.returned (.tuple #[.agg (outF V p k x0 x1 x2 x3 x4 x5 x6 x7 x8 x9 x10 x11 xt xp xv xy xd).1,.bool (outF V p k x0 x1 x2 x3 x4 x5 x6 x7 x8 x9 x10 x11 xt xp xv xy xd).2])∧Below w.heap.size w w':=by
 obtain⟨R,hR⟩:∃ R,outF V p k x0 x1 x2 x3 x4 x5 x6 x7 x8 x9 x10 x11 xt xp xv xy xd=R:=⟨_,rfl⟩
 rw[hR]
 obtain⟨U,hU⟩:∃ U,unB V p k=U:=⟨_,rfl⟩
 obtain⟨e2,he2⟩:∃ e,(vGet V k).2=e:=⟨_,rfl⟩
 obtain⟨e1,he1⟩:∃ e,(vGet V k).1=e:=⟨_,rfl⟩
 obtain⟨FF,hFF⟩:∃ A,frA x0 x1 x2 x3 x4 x5 x6 x7 x8 x9 x10 x11 (outT U) (outP U xp) (outV U k) xy xd=A:=⟨_,rfl⟩
 obtain⟨X,e,hX⟩:∃ X e,putF x0 x1 x2 x3 x4 x5 x6 x7 x8 x9 x10 x11 (outT U) (outP U xp) (outV U k) xy xd=(X,e):=⟨_,_,rfl⟩
 obtain⟨Bm,hBm⟩:∃ b,memB e1 p=b:=⟨_,rfl⟩
 have HRR:Hid (R=if Bm=true then(if e=0 then(FF,true) else(frZ,false)) else(frZ,false)):=hd0 (by
  rw[←hR];unfold outF;rw[he1,hBm,hU,hX,hFF])
 have hwo:wfF x0 x1 x2 x3 x4 x5 x6 x7 x8 x9 x10 x11 (outP U xp) (outV U k) xy:=by
  obtain⟨h1,h2,h3,h4,h5⟩:=hw
  refine⟨h1,h2,?_,?_,h5⟩
  ·unfold outP;split <;> omega
  ·unfold outV;split <;> omega
 have P1:Hid (∀ w,Calls Tryz.prog 123 #[.agg FF] w fun en w'=>en=.returned (.tuple #[.string (bs X),.int .i64 e])∧Below w.heap.size w w'):=hd0 fun w=>by
  have h:=fput_any x0 x1 x2 x3 x4 x5 x6 x7 x8 x9 x10 x11 (outT U) (outP U xp) (outV U k) xy xd w hwo hd
  rw[hX] at h;rw[←hFF];exact h
 have ebd:=(vGet_wf2 hs.vm.wf k).2
 rw[he2] at ebd
 have hbU:(bits .and .u8 (e2 / 2 ^ p) 1==1)=U:=by rw[and_shr e2 p ebd,← hU];unfold unB;rw[he2]
 have MBR:Hid (∀ W,TS W q n m o V→Calls Tryz.prog 203 #[.pointer (some ⟨q,0,none⟩),.int .u8 (p:Int),.int .u16 k] W fun en w'=>en=.returned (.bool Bm)∧W=w'):=hd0 fun W h=>by
  have h:=vmember_any q m n o V p k W h hp hk
  rw[he1,hBm] at h;exact h
 have LK:Hid (∀ W,TS W q n m o V→(Instr.lookup 289 (.map (some m)) (.int .u16 k) false).run Tryz.prog W=.ok (.agg #[.int .u8 e1,.int .u8 e2]) W):=hd0 fun W h=>by
  have h:=h.vm.look1 k hk
  rw[he1,he2] at h;exact h
 have f1:=run_ports1 e1 e2
 have TSW:=hd0 hs
 have HQM:=hd0 (And.intro hs.tb.lt hs.vm.lt)
 have hm8:Bm=true→p<8:=fun h=>by
  rw[←hBm] at h;unfold memB at h
  by_cases h8:p<8
  ·exact h8
  ·rw[decide_eq_false h8] at h;cases h
 have HM8:=hd0 hm8
 obtain⟨A,hA⟩:∃ A,frA x0 x1 x2 x3 x4 x5 x6 x7 x8 x9 x10 x11 xt xp xv xy xd=A:=⟨_,rfl⟩
 have h12:A[12]?=some (.bool xt):=by rw[←hA];rfl
 have h13:A[13]?=some (.int .u8 xp):=by rw[←hA];rfl
 have h14:A[14]?=some (.int .u16 xv):=by rw[←hA];rfl
 have isA:isFr A:=by rw[←hA];exact frA_is ..
 have isF:isFr FF:=by rw[←hFF];exact frA_is ..
 have iZ:=hd0 (frame_info isFr_Z)
 have iF:=hd0 (frame_info isF)
 have iFL:=hd0 (frame_infoL isF)
 have oZ:=hd0 isFr_Z.one
 have oF:=hd0 isF.one
 have sF:=hd0 isF.size
 have HAA:=hd0 hA
 have HFF:=hd0 hFF
 have HH:=hd0 (And.intro h12 (And.intro h13 h14))
 rw[hA]
 clear hR hU he1 he2 hFF hX hBm hwo hw hd ebd hs hm8 hA h12 h13 h14 isA isF hk
 go_enter Tryz.func253,Tryz.ntmps253
 go_upto_region 1 with fail
 have fb0:=(FB.new w A).later (bAo (.cells #[.int .u8 0,.int .u8 0,.int .u8 0,.int .u8 0,.int .u8 0,.int .u8 0,.int .u8 0,.int .u8 0,.int .u8 0,.int .u8 0,.int .u8 0,.int .u8 0,.bool false,.int .u8 0,.int .u16 0,.int .u16 0,.string { data:=#[] }] 264))
 have fz0:FB ((w.alloc (.cells A 264)).alloc (.cells #[.int .u8 0,.int .u8 0,.int .u8 0,.int .u8 0,.int .u8 0,.int .u8 0,.int .u8 0,.int .u8 0,.int .u8 0,.int .u8 0,.int .u8 0,.int .u8 0,.bool false,.int .u8 0,.int .u16 0,.int .u16 0,.string { data:=#[] }] 264)) (w.heap.size+1) frZ:=by
  have:=FB.new (w.alloc (.cells A 264)) frZ
  rw[show(w.alloc (.cells A 264)).heap.size=w.heap.size+1 by simp] at this
  exact this
 have hb0:Below w.heap.size w ((w.alloc (.cells A 264)).alloc (.cells #[.int .u8 0,.int .u8 0,.int .u8 0,.int .u8 0,.int .u8 0,.int .u8 0,.int .u8 0,.int .u8 0,.int .u8 0,.int .u8 0,.int .u8 0,.int .u8 0,.bool false,.int .u8 0,.int .u16 0,.int .u16 0,.string { data:=#[] }] 264)):=(bAo _).alloc (by simp) _
 obtain⟨w0,hw0⟩:∃ x,(w.alloc (.cells A 264)).alloc (.cells #[.int .u8 0,.int .u8 0,.int .u8 0,.int .u8 0,.int .u8 0,.int .u8 0,.int .u8 0,.int .u8 0,.int .u8 0,.int .u8 0,.int .u8 0,.int .u8 0,.bool false,.int .u8 0,.int .u16 0,.int .u16 0,.string { data:=#[] }] 264)=x:=⟨_,rfl⟩
 rw[hw0] at fb0 fz0 hb0 ⊢
 have OS0:Hid (OS w w0 A):=hd0 ⟨fb0,fz0,hb0⟩
 have TS0:=hd0 (TSW.out.later hb0)
 clear hw0 fb0 fz0 hb0
 go_wp2_with fail
 with_reducible refine(MBR.out _ TS0.out).mono ?_
 rintro en _ ⟨rfl,rfl⟩
 cases Bm with
 | false =>
  have hR0:Hid (R=(frZ,false)):=hd0 (by rw[HRR.out];rfl)
  have TH:=hd0 (OS0.out.z.there (n:=frZ.size) (Nat.le_refl _))
  have G1:=hd0 (OS0.out.z.store (A:=frZ) rfl oZ.out)
  go_wp2_with ((with_reducible refine wpList_store_mid rfl 264 (.tmp 8) (.tmp 21) rfl (w.heap.size+1) 0 frZ ?hx ?hy TH.out iZ.out oZ.out ?_);(case hx=>rfl);(case hy=>rfl))
  exact bodyPost_ret (v:=.tuple #[.agg frZ,.bool false]) (res_out _ _ (w.heap.size+1) _ rfl G1.out rfl) rfl ⟨by rw[hR0.out],below_cells (by omega) _ _ _ OS0.out.bel⟩
 | true =>
 have hp8:=HM8.out rfl
 have p0:(0:Int)≤(p:Int):=by omega
 have p8:(p:Int)≤8:=by omega
 have HR1:Hid (R=if e=0 then(FF,true) else(frZ,false)):=hd0 (by rw[HRR.out];rfl)
 clear HRR HM8 hp8
 have c12:=OS0.out.f.c 12 _ HH.out.1
 have c14:=OS0.out.f.c 14 _ HH.out.2.2
 have r12:=OS0.out.f.free 12
 have r14:=OS0.out.f.free 14
 go_upto_region 4 with fail
 have fa0:FB w0 w.heap.size (frA x0 x1 x2 x3 x4 x5 x6 x7 x8 x9 x10 x11 xt xp xv xy xd):=by rw[HAA.out];exact OS0.out.f
 have fa1:=(fa0.set12 true).set14 k
 have fz1:=(OS0.out.z.other (t:=w.heap.size) (o:=12) (by omega) (.bool true)).other (t:=w.heap.size) (o:=14) (by omega) (.int .u16 k)
 have hb1:=below_set (b:=w.heap.size) (o:=14) (below_set (b:=w.heap.size) (o:=12) OS0.out.bel (Nat.le_refl _) (.bool true)) (Nat.le_refl _) (.int .u16 k)
 obtain⟨w1,hw1⟩:∃ x,(w0.setCell ⟨w.heap.size,12,none⟩ (.bool true)).setCell ⟨w.heap.size,14,none⟩ (.int .u16 k)=x:=⟨_,rfl⟩
 rw[hw1] at fa1 fz1 hb1 ⊢
 obtain⟨A1,hA1⟩:∃ A,frA x0 x1 x2 x3 x4 x5 x6 x7 x8 x9 x10 x11 true xp k xy xd=A:=⟨_,rfl⟩
 rw[hA1] at fa1
 have OS1:Hid (OS w w1 A1):=hd0 ⟨fa1,fz1,hb1⟩
 have TS1:=hd0 (TSW.out.later hb1)
 have d12:=fa1.c 12 (.bool true) (by rw[←hA1];rfl)
 have d13:=fa1.c 13 (.int .u8 xp) (by rw[←hA1];rfl)
 have d14:=fa1.c 14 (.int .u16 k) (by rw[←hA1];rfl)
 have s12:=fa1.free 12
 have s13:=fa1.free 13
 have s14:=fa1.free 14
 have lk:=LK.out w1 TS1.out
 have c1:=TS1.out.tb.c1
 have HA1:=hd0 hA1
 clear hw1 fa0 fa1 fz1 hb1 c12 c14 r12 r14 OS0 TS0 hA1
 go_upto_if 35 with fail
 go_cut [9] (fun s9 wx=>s9=.bool false∧Hid (OS w wx FF))
 case first =>
  cases U with
  | false =>
   have hAF:A1=FF:=by rw[←HA1.out,← HFF.out];rfl
   have OSF:Hid (OS w w1 FF):=hd0 (by rw[←hAF];exact OS1.out)
   clear hAF
   go_wp2_with fail
   go_meet
   exact⟨rfl,OSF⟩
  | true =>
   have fa:FB w1 w.heap.size (frA x0 x1 x2 x3 x4 x5 x6 x7 x8 x9 x10 x11 true xp k xy xd):=by rw[HA1.out];exact OS1.out.f
   have fb:=((fa.set12 false).set14 0).set13 0
   have fz:=((OS1.out.z.other (t:=w.heap.size) (o:=12) (by omega) (.bool false)).other (t:=w.heap.size) (o:=14) (by omega) (.int .u16 0)).other (t:=w.heap.size) (o:=13) (by omega) (.int .u8 0)
   have hb:=below_set (b:=w.heap.size) (o:=13) (below_set (b:=w.heap.size) (o:=14) (below_set (b:=w.heap.size) (o:=12) OS1.out.bel (Nat.le_refl _) (.bool false)) (Nat.le_refl _) (.int .u16 0)) (Nat.le_refl _) (.int .u8 0)
   have hAF:frA x0 x1 x2 x3 x4 x5 x6 x7 x8 x9 x10 x11 false 0 0 xy xd=FF:=by rw[←HFF.out];rfl
   rw[hAF] at fb
   have OSF:=hd0 (OS.mk fb fz hb)
   clear fa fb fz hb hAF
   go_wp2_with fail
   go_meet
   exact⟨rfl,OSF⟩
 case rest =>
  obtain⟨rfl,OSF⟩:=hcut
  clear OS1 TS1 d12 d13 d14 s12 s13 s14 lk c1
  go_wp2_with ((with_reducible refine wpList_load_mid rfl 264 (.tmp 7) rfl w.heap.size 0 ?hx FF.toList _ OSF.out.f.range Tryz.underlying264 ?hu iFL.out ?_);(case hx=>rfl);(case hu=>rfl))
  with_reducible refine(P1.out _).mono ?_
  rintro en w3 ⟨rfl,hb3⟩
  have OS3:=hd0 (OSF.out.later hb3)
  clear hb3 OSF
  by_cases he:e=0
  ·have de:(e != 0)=false:=by rw[he];rfl
   have hR0:Hid (R=(FF,true)):=hd0 (by rw[HR1.out,if_pos he])
   have TH:=hd0 (OS3.out.z.there (n:=FF.size) (by rw[sF.out];exact Nat.le_refl _))
   have G1:=hd0 (OS3.out.z.store (A:=FF) (by rw[sF.out];rfl) oF.out)
   clear he
   go_wp2_with (first|((with_reducible refine wpList_load_mid rfl 264 (.tmp 7) rfl w.heap.size 0 ?hx FF.toList _ OS3.out.f.range Tryz.underlying264 ?hu iFL.out ?_);(case hx=>rfl);(case hu=>rfl))|((with_reducible refine wpList_store_mid rfl 264 (.tmp 8) (.tmp 47) rfl (w.heap.size+1) 0 FF ?hx ?hy TH.out iF.out oF.out ?_);(case hx=>rfl);(case hy=>rfl)))
   exact bodyPost_ret (v:=.tuple #[.agg FF,.bool true]) (res_out _ _ (w.heap.size+1) _ rfl G1.out sF.out) rfl ⟨by rw[hR0.out],below_cells (by omega) _ _ _ OS3.out.bel⟩
  ·have de:(e != 0)=true:=by rw[bne_iff_ne];exact he
   have hR0:Hid (R=(frZ,false)):=hd0 (by rw[HR1.out,if_neg he])
   have TH:=hd0 (OS3.out.z.there (n:=frZ.size) (Nat.le_refl _))
   have G1:=hd0 (OS3.out.z.store (A:=frZ) rfl oZ.out)
   clear he
   go_wp2_with ((with_reducible refine wpList_store_mid rfl 264 (.tmp 8) (.tmp 46) rfl (w.heap.size+1) 0 frZ ?hx ?hy TH.out iZ.out oZ.out ?_);(case hx=>rfl);(case hy=>rfl))
   exact bodyPost_ret (v:=.tuple #[.agg frZ,.bool false]) (res_out _ _ (w.heap.size+1) _ rfl G1.out rfl) rfl ⟨by rw[hR0.out],below_cells (by omega) _ _ _ OS3.out.bel⟩
end Go.Proofs.YtghaobakpdninaaGreatDoor
