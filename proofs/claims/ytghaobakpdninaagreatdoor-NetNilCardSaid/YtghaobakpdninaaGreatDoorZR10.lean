/- ZR10 -/
import Derived.Test.YtghaobakpdninaaGreatDoorZR09
set_option linter.unusedVariables false
set_option linter.unusedSimpArgs false
set_option maxRecDepth 100000
set_option maxHeartbeats 16000000
namespace Go.Proofs.YtghaobakpdninaaGreatDoor
open Go.RowKit
theorem tlink_k (g o:Nat)(u:Bool)(w:World)(c0:w.cell? ⟨g,o,none⟩=some (.int .u32 5))(c1:w.cell? ⟨g,o+1,none⟩=some (.bool u)):Calls Tryz.prog 125 #[.pointer (some ⟨g,o,none⟩)] w fun en w'=>en=.returned (.bool u)∧w'=w:=by
 cases u
 ·go_enter Tryz.func125,Tryz.ntmps125
  go_wp2
  go_ret
  exact⟨rfl,rfl⟩
 ·go_enter Tryz.func125,Tryz.ntmps125
  go_wp2
  go_ret
  exact⟨rfl,rfl⟩
section
variable {W W':World} {m g cap:Nat} {t:List Value} {T:TM} {a u ag:Bool} {h:Bp} {id rt co po ho ve fl la sp:Int}
theorem TR.xR (hT:TR W m g cap t (ml id a (lk u h la ag sp) rt co po ho ve fl)):W.rangeAt g 18 (bpC h):=fun j v hv=>by
 have hj:j<11:=by have:=(List.getElem?_eq_some_iff.1 hv).1;simpa [bpC] using this
 rw[show 18+j=16+(2+j) by omega]
 refine hT.x1 (2+j) (by omega) v ?_
 rw[←hv]
 have:tpC (lk u h la ag sp)=[.int .u32 5,.bool u]++(bpC h++[.int .i64 la,.bool ag,.int .i64 sp]):=rfl
 rw[this,Nat.add_comm,List.getElem?_append_right (by simp)]
 simp only[List.length_cons,List.length_nil,Nat.add_sub_cancel]
 rw[List.getElem?_append_left (by simpa [bpC] using hj)]
end
section
variable {W W':World} {m g cap:Nat} {t:List Value} {T:TM} {a:Bool} {x:TP} {id rt co po ho ve fl:Int}
theorem TR.xR0 (hT:TR W m g cap t (ml id a x rt co po ho ve fl)):W.rangeAt g 2 (bpC bp0):=fun j v hv=>by
 have hj:j<11:=by have:=(List.getElem?_eq_some_iff.1 hv).1;simpa [bpC] using this
 refine hT.h0 (2+j) (by omega) v ?_
 rw[←hv]
 have:tpC (hp a)=[.int .u32 0,.bool a]++(bpC bp0++[.int .i64 0,.bool false,.int .i64 0]):=rfl
 rw[this,Nat.add_comm,List.getElem?_append_right (by simp)]
 simp only[List.length_cons,List.length_nil,Nat.add_sub_cancel]
 rw[List.getElem?_append_left (by simpa [bpC] using hj)]
end
theorem tpath0 (m g cap:Nat)(t:List Value)(id:Int)(a:Bool)(x:TP)(rt co po ho ve fl:Int)(w:World)(h:TR w m g cap t (ml id a x rt co po ho ve fl)):Calls Tryz.prog 172 #[.pointer (some ⟨m,0,none⟩),.int .i64 0] w fun en w'=>en=.returned (.tuple #[.agg #[.int .u64 0,.int .u32 0,.int .u64 0,.int .u8 0,.int .u8 0],.bool false])∧Below w.heap.size w w':=by
 have hb:=(Below.refl w.heap.size w).alloc (Nat.le_refl _) (.cells pathZ 281)
 have hp0:=GB.new 281 w pathZ
 obtain⟨w0,hw0⟩:∃ z,w.alloc (.cells pathZ 281)=z:=⟨_,rfl⟩
 have hw0':w.alloc (.cells #[.int .u64 0,.int .u32 0,.int .u64 0,.int .u8 0,.int .u8 0] 281)=w0:=hw0
 rw[hw0] at hb hp0
 have T0:=h.later hb
 have c1:=T0.l1
 have R0:Hid (w0.rangeAt g 2 [.int .u64 0,.int .u32 0,.int .u64 0,.int .u8 0,.int .u8 0,.int .u64 0,.int .u8 0,.bool false,.bool false,.bool false,.int .u64 0]):=hd0 T0.xR0
 have HI2:Hid ((Tryz.prog.info? 212).map (·.size)=some (List.length ([.int .u64 0,.int .u32 0,.int .u64 0,.int .u8 0,.int .u8 0,.int .u64 0,.int .u8 0,.bool false,.bool false,.bool false,.int .u64 0]:List Value))):=hd0 (by kernel_rfl)
 have HT:=hd0 T0
 have HB:=hd0 hb
 have HP:=hd0 hp0
 clear h T0 hb hp0 hw0
 go_enter Tryz.func172,Tryz.ntmps172
 go_upto_region 1 with fail
 clear hw0'
 go_upto_region 2 with fail
 go_upto_region 3 with((with_reducible refine wpList_load_mid rfl 212 (.tmp 18) rfl g 2 ?hx [.int .u64 0,.int .u32 0,.int .u64 0,.int .u8 0,.int .u8 0,.int .u64 0,.int .u8 0,.bool false,.bool false,.bool false,.int .u64 0] _ R0.out Tryz.underlying212 ?hu HI2.out ?_);(case hx=>rfl);(case hu=>rfl))
 have hb2:Below w0.heap.size w0 (w0.alloc (.cells #[.int .u64 0,.int .u32 0,.int .u64 0,.int .u8 0,.int .u8 0,.int .u64 0,.int .u8 0,.bool false,.bool false,.bool false,.int .u64 0] 212)):=bAo _
 have gq:=GB.new 212 w0 #[.int .u64 0,.int .u32 0,.int .u64 0,.int .u8 0,.int .u8 0,.int .u64 0,.int .u8 0,.bool false,.bool false,.bool false,.int .u64 0]
 obtain⟨q,hq⟩:∃ z,w0.heap.size=z:=⟨_,rfl⟩
 have T1:=HT.out.later hb2
 have P1:=HP.out.later hb2
 have B1:=HB.out.trans (hb2.mono HB.out.size)
 have hwq:w.heap.size≤q:=by rw[←hq];exact HB.out.size
 rw[hq] at gq ⊢
 obtain⟨w1,hw1⟩:∃ z,w0.alloc (.cells #[.int .u64 0,.int .u32 0,.int .u64 0,.int .u8 0,.int .u8 0,.int .u64 0,.int .u8 0,.bool false,.bool false,.bool false,.int .u64 0] 212)=z:=⟨_,rfl⟩
 rw[hw1] at gq T1 P1 B1 ⊢
 have HT1:=hd0 T1
 have HP1:=hd0 P1
 have HB1:=hd0 B1
 have HQ1:=hd0 gq
 clear gq T1 P1 B1 hb2 hw1 hq R0 HI2 HT HB HP c1
 have HI:Hid ((Tryz.prog.info? 281).map (·.size)=some (Array.size #[Value.int .u64 0,.int .u32 0,.int .u64 0,.int .u8 0,.int .u8 0])):=hd0 (by kernel_rfl)
 have HO1:Hid ((#[.int .u64 0,.int .u32 0,.int .u64 0,.int .u8 0,.int .u8 0]:Array Value).all (·.oneCell')=true):=hd0 (by kernel_rfl)
 have LK:Hid (∀ K:Later w1,Calls Tryz.prog 125 #[.pointer (some ⟨g,0,none⟩)] K.out fun en w'=>en=.returned (.bool false)∧K.out=w'):=hd0 fun K=>(tlink_host g 0 a K.out ((HT1.out.later K.h).h0 0 (by decide) _ rfl) ((HT1.out.later K.h).h0 1 (by decide) _ rfl)).mono (by rintro e w' ⟨rfl,rfl⟩;exact⟨rfl,rfl⟩)
 refine wp_region_later (by kernel_rfl) (by kernel_rfl) ?_
 repeat (go_big_quiet_step (first|(go_at_call 125;exact Calls.later_same (LK.out _))))
 refine wpQuiet_nil ?_
 rintro _ ⟨K,rfl⟩
 have gk:=HP1.out.later K.h
 have TH:Hid (K.out.there w.heap.size 0 (Array.size #[Value.int .u64 0,.int .u32 0,.int .u64 0,.int .u8 0,.int .u8 0])):=hd0 (gk.there (Nat.le_refl _))
 have HGK:=hd0 gk
 clear gk
 go_wp2_with ((with_reducible refine wpList_store_mid rfl 281 (.tmp 4) (.tmp 50) rfl w.heap.size 0 #[Value.int .u64 0,.int .u32 0,.int .u64 0,.int .u8 0,.int .u8 0] ?hx ?hy TH.out HI.out HO1.out ?_);(case hx=>rfl);(case hy=>rfl))
 exact bodyPost_ret (v:=.tuple #[.agg pathZ,.bool false]) (res_two (p:=4) (u:=5) (d:=_) rfl rfl Tryz.underlying281 _ _ w.heap.size _ rfl (HGK.out.store rfl HO1.out) (by kernel_rfl)) rfl ⟨rfl,below_cellsG (Nat.le_refl _) _ _ _ (HB1.out.trans (K.h.mono HB1.out.size))⟩
theorem tpathN (m g cap:Nat)(t:List Value)(id:Int)(a u:Bool)(x:Bp)(la:Int)(ag:Bool)(sp rt co po ho ve fl:Int)(hc:u=false∨la=0∨la≠0∧x.ro≠2)(w:World)(h:TR w m g cap t (ml id a (lk u x la ag sp) rt co po ho ve fl)):Calls Tryz.prog 172 #[.pointer (some ⟨m,0,none⟩),.int .i64 1] w fun en w'=>en=.returned (.tuple #[.agg #[.int .u64 0,.int .u32 0,.int .u64 0,.int .u8 0,.int .u8 0],.bool false])∧Below w.heap.size w w':=by
 have hb:=(Below.refl w.heap.size w).alloc (Nat.le_refl _) (.cells pathZ 281)
 have hp0:=GB.new 281 w pathZ
 obtain⟨w0,hw0⟩:∃ z,w.alloc (.cells pathZ 281)=z:=⟨_,rfl⟩
 have hw0':w.alloc (.cells #[.int .u64 0,.int .u32 0,.int .u64 0,.int .u8 0,.int .u8 0] 281)=w0:=hw0
 rw[hw0] at hb hp0
 have T0:=h.later hb
 have c1:=T0.l1
 have R0:Hid (w0.rangeAt g 18 [.int .u64 x.rt,.int .u32 x.co,.int .u64 x.br,.int .u8 x.po,.int .u8 x.ho,.int .u64 x.ve,.int .u8 x.ro,.bool x.pr,.bool x.ag,.bool x.tp,.int .u64 x.ec]):=hd0 T0.xR
 have HI2:Hid ((Tryz.prog.info? 212).map (·.size)=some (List.length ([.int .u64 x.rt,.int .u32 x.co,.int .u64 x.br,.int .u8 x.po,.int .u8 x.ho,.int .u64 x.ve,.int .u8 x.ro,.bool x.pr,.bool x.ag,.bool x.tp,.int .u64 x.ec]:List Value))):=hd0 (by kernel_rfl)
 have HT:=hd0 T0
 have HB:=hd0 hb
 have HP:=hd0 hp0
 clear h T0 hb hp0 hw0
 go_enter Tryz.func172,Tryz.ntmps172
 go_upto_region 1 with fail
 clear hw0'
 go_upto_region 2 with fail
 go_upto_region 3 with((with_reducible refine wpList_load_mid rfl 212 (.tmp 18) rfl g 18 ?hx [.int .u64 x.rt,.int .u32 x.co,.int .u64 x.br,.int .u8 x.po,.int .u8 x.ho,.int .u64 x.ve,.int .u8 x.ro,.bool x.pr,.bool x.ag,.bool x.tp,.int .u64 x.ec] _ R0.out Tryz.underlying212 ?hu HI2.out ?_);(case hx=>rfl);(case hu=>rfl))
 have hb2:Below w0.heap.size w0 (w0.alloc (.cells #[.int .u64 x.rt,.int .u32 x.co,.int .u64 x.br,.int .u8 x.po,.int .u8 x.ho,.int .u64 x.ve,.int .u8 x.ro,.bool x.pr,.bool x.ag,.bool x.tp,.int .u64 x.ec] 212)):=bAo _
 have gq:=GB.new 212 w0 #[.int .u64 x.rt,.int .u32 x.co,.int .u64 x.br,.int .u8 x.po,.int .u8 x.ho,.int .u64 x.ve,.int .u8 x.ro,.bool x.pr,.bool x.ag,.bool x.tp,.int .u64 x.ec]
 obtain⟨q,hq⟩:∃ z,w0.heap.size=z:=⟨_,rfl⟩
 have T1:=HT.out.later hb2
 have P1:=HP.out.later hb2
 have B1:=HB.out.trans (hb2.mono HB.out.size)
 have hwq:w.heap.size≤q:=by rw[←hq];exact HB.out.size
 rw[hq] at gq ⊢
 obtain⟨w1,hw1⟩:∃ z,w0.alloc (.cells #[.int .u64 x.rt,.int .u32 x.co,.int .u64 x.br,.int .u8 x.po,.int .u8 x.ho,.int .u64 x.ve,.int .u8 x.ro,.bool x.pr,.bool x.ag,.bool x.tp,.int .u64 x.ec] 212)=z:=⟨_,rfl⟩
 rw[hw1] at gq T1 P1 B1 ⊢
 have HT1:=hd0 T1
 have HP1:=hd0 P1
 have HB1:=hd0 B1
 have HQ1:=hd0 gq
 clear gq T1 P1 B1 hb2 hw1 hq R0 HI2 HT HB HP c1
 have HI:Hid ((Tryz.prog.info? 281).map (·.size)=some (Array.size #[Value.int .u64 0,.int .u32 0,.int .u64 0,.int .u8 0,.int .u8 0])):=hd0 (by kernel_rfl)
 have HO1:Hid ((#[.int .u64 0,.int .u32 0,.int .u64 0,.int .u8 0,.int .u8 0]:Array Value).all (·.oneCell')=true):=hd0 (by kernel_rfl)
 have LK:Hid (∀ K:Later w1,Calls Tryz.prog 125 #[.pointer (some ⟨g,16,none⟩)] K.out fun en w'=>en=.returned (.bool u)∧K.out=w'):=hd0 fun K=>(tlink_k g 16 u K.out ((HT1.out.later K.h).x1 0 (by decide) _ rfl) ((HT1.out.later K.h).x1 1 (by decide) _ rfl)).mono (by rintro e w' ⟨rfl,rfl⟩;exact⟨rfl,rfl⟩)
 have l29:∀ K:Later w1,K.out.cell? ⟨g,29,none⟩=some (.int .i64 la):=fun K=>(HT1.out.later K.h).x1 13 (by decide) _ rfl
 have q6:∀ K:Later w1,K.out.cell? ⟨q,6,none⟩=some (.int .u8 x.ro):=fun K=>(HQ1.out.later K.h).c 6 _ rfl
 rcases hc with rfl|rfl|⟨hl,hr⟩
 ·clear l29 q6
  refine wp_region_later (by kernel_rfl) (by kernel_rfl) ?_
  repeat (go_big_quiet_step (first|(go_at_call 125;exact Calls.later_same (LK.out _))))
  refine wpQuiet_nil ?_
  rintro _ ⟨K,rfl⟩
  have gk:=HP1.out.later K.h
  have TH:Hid (K.out.there w.heap.size 0 (Array.size #[Value.int .u64 0,.int .u32 0,.int .u64 0,.int .u8 0,.int .u8 0])):=hd0 (gk.there (Nat.le_refl _))
  have HGK:=hd0 gk
  clear gk
  go_wp2_with ((with_reducible refine wpList_store_mid rfl 281 (.tmp 4) (.tmp 50) rfl w.heap.size 0 #[Value.int .u64 0,.int .u32 0,.int .u64 0,.int .u8 0,.int .u8 0] ?hx ?hy TH.out HI.out HO1.out ?_);(case hx=>rfl);(case hy=>rfl))
  exact bodyPost_ret (v:=.tuple #[.agg pathZ,.bool false]) (res_two (p:=4) (u:=5) (d:=_) rfl rfl Tryz.underlying281 _ _ w.heap.size _ rfl (HGK.out.store rfl HO1.out) (by kernel_rfl)) rfl ⟨rfl,below_cellsG (Nat.le_refl _) _ _ _ (HB1.out.trans (K.h.mono HB1.out.size))⟩
 ·cases u
  ·clear l29 q6
   refine wp_region_later (by kernel_rfl) (by kernel_rfl) ?_
   repeat (go_big_quiet_step (first|(go_at_call 125;exact Calls.later_same (LK.out _))))
   refine wpQuiet_nil ?_
   rintro _ ⟨K,rfl⟩
   have gk:=HP1.out.later K.h
   have TH:Hid (K.out.there w.heap.size 0 (Array.size #[Value.int .u64 0,.int .u32 0,.int .u64 0,.int .u8 0,.int .u8 0])):=hd0 (gk.there (Nat.le_refl _))
   have HGK:=hd0 gk
   clear gk
   go_wp2_with ((with_reducible refine wpList_store_mid rfl 281 (.tmp 4) (.tmp 50) rfl w.heap.size 0 #[Value.int .u64 0,.int .u32 0,.int .u64 0,.int .u8 0,.int .u8 0] ?hx ?hy TH.out HI.out HO1.out ?_);(case hx=>rfl);(case hy=>rfl))
   exact bodyPost_ret (v:=.tuple #[.agg pathZ,.bool false]) (res_two (p:=4) (u:=5) (d:=_) rfl rfl Tryz.underlying281 _ _ w.heap.size _ rfl (HGK.out.store rfl HO1.out) (by kernel_rfl)) rfl ⟨rfl,below_cellsG (Nat.le_refl _) _ _ _ (HB1.out.trans (K.h.mono HB1.out.size))⟩
  ·clear q6
   refine wp_region_later (by kernel_rfl) (by kernel_rfl) ?_
   repeat (go_big_quiet_step (first|(go_at_call 125;exact Calls.later_same (LK.out _))))
   refine wpQuiet_nil ?_
   rintro _ ⟨K,rfl⟩
   have gk:=HP1.out.later K.h
   have TH:Hid (K.out.there w.heap.size 0 (Array.size #[Value.int .u64 0,.int .u32 0,.int .u64 0,.int .u8 0,.int .u8 0])):=hd0 (gk.there (Nat.le_refl _))
   have HGK:=hd0 gk
   clear gk
   go_wp2_with ((with_reducible refine wpList_store_mid rfl 281 (.tmp 4) (.tmp 50) rfl w.heap.size 0 #[Value.int .u64 0,.int .u32 0,.int .u64 0,.int .u8 0,.int .u8 0] ?hx ?hy TH.out HI.out HO1.out ?_);(case hx=>rfl);(case hy=>rfl))
   exact bodyPost_ret (v:=.tuple #[.agg pathZ,.bool false]) (res_two (p:=4) (u:=5) (d:=_) rfl rfl Tryz.underlying281 _ _ w.heap.size _ rfl (HGK.out.store rfl HO1.out) (by kernel_rfl)) rfl ⟨rfl,below_cellsG (Nat.le_refl _) _ _ _ (HB1.out.trans (K.h.mono HB1.out.size))⟩
 ·have da:(la==0)=false:=beq_eq_false_iff_ne.2 hl
  have dr:(x.ro==2)=false:=beq_eq_false_iff_ne.2 hr
  have dn:(x.ro != 2)=true:=bne_iff_ne.2 hr
  clear hl hr
  cases u
  ·clear l29 q6
   refine wp_region_later (by kernel_rfl) (by kernel_rfl) ?_
   repeat (go_big_quiet_step (first|(go_at_call 125;exact Calls.later_same (LK.out _))))
   refine wpQuiet_nil ?_
   rintro _ ⟨K,rfl⟩
   have gk:=HP1.out.later K.h
   have TH:Hid (K.out.there w.heap.size 0 (Array.size #[Value.int .u64 0,.int .u32 0,.int .u64 0,.int .u8 0,.int .u8 0])):=hd0 (gk.there (Nat.le_refl _))
   have HGK:=hd0 gk
   clear gk
   go_wp2_with ((with_reducible refine wpList_store_mid rfl 281 (.tmp 4) (.tmp 50) rfl w.heap.size 0 #[Value.int .u64 0,.int .u32 0,.int .u64 0,.int .u8 0,.int .u8 0] ?hx ?hy TH.out HI.out HO1.out ?_);(case hx=>rfl);(case hy=>rfl))
   exact bodyPost_ret (v:=.tuple #[.agg pathZ,.bool false]) (res_two (p:=4) (u:=5) (d:=_) rfl rfl Tryz.underlying281 _ _ w.heap.size _ rfl (HGK.out.store rfl HO1.out) (by kernel_rfl)) rfl ⟨rfl,below_cellsG (Nat.le_refl _) _ _ _ (HB1.out.trans (K.h.mono HB1.out.size))⟩
  ·
   refine wp_region_later (by kernel_rfl) (by kernel_rfl) ?_
   repeat (go_big_quiet_step (first|(go_at_call 125;exact Calls.later_same (LK.out _))))
   refine wpQuiet_nil ?_
   rintro _ ⟨K,rfl⟩
   have gk:=HP1.out.later K.h
   have TH:Hid (K.out.there w.heap.size 0 (Array.size #[Value.int .u64 0,.int .u32 0,.int .u64 0,.int .u8 0,.int .u8 0])):=hd0 (gk.there (Nat.le_refl _))
   have HGK:=hd0 gk
   clear gk
   go_wp2_with ((with_reducible refine wpList_store_mid rfl 281 (.tmp 4) (.tmp 50) rfl w.heap.size 0 #[Value.int .u64 0,.int .u32 0,.int .u64 0,.int .u8 0,.int .u8 0] ?hx ?hy TH.out HI.out HO1.out ?_);(case hx=>rfl);(case hy=>rfl))
   exact bodyPost_ret (v:=.tuple #[.agg pathZ,.bool false]) (res_two (p:=4) (u:=5) (d:=_) rfl rfl Tryz.underlying281 _ _ w.heap.size _ rfl (HGK.out.store rfl HO1.out) (by kernel_rfl)) rfl ⟨rfl,below_cellsG (Nat.le_refl _) _ _ _ (HB1.out.trans (K.h.mono HB1.out.size))⟩
theorem tpathY (m g cap:Nat)(t:List Value)(id:Int)(a:Bool)(r:Int)(p:Bool)(la:Int)(ag:Bool)(sp rt co po ho ve fl:Int)(hl:la≠0)(hr:r≠id)(w:World)(h:TR w m g cap t (ml id a (lk true (wD r p) la ag sp) rt co po ho ve fl)):Calls Tryz.prog 172 #[.pointer (some ⟨m,0,none⟩),.int .i64 1] w fun en w'=>en=.returned (.tuple #[.agg #[.int .u64 r,.int .u32 5,.int .u64 r,.int .u8 1,.int .u8 1],.bool true])∧Below w.heap.size w w':=by
 have hb:=(Below.refl w.heap.size w).alloc (Nat.le_refl _) (.cells pathZ 281)
 have hp0:=GB.new 281 w pathZ
 obtain⟨w0,hw0⟩:∃ z,w.alloc (.cells pathZ 281)=z:=⟨_,rfl⟩
 have hw0':w.alloc (.cells #[.int .u64 0,.int .u32 0,.int .u64 0,.int .u8 0,.int .u8 0] 281)=w0:=hw0
 rw[hw0] at hb hp0
 have T0:=h.later hb
 have c1:=T0.l1
 have R0:Hid (w0.rangeAt g 18 [.int .u64 r,.int .u32 0,.int .u64 r,.int .u8 1,.int .u8 0,.int .u64 1,.int .u8 2,.bool p,.bool false,.bool false,.int .u64 0]):=hd0 T0.xR
 have HI2:Hid ((Tryz.prog.info? 212).map (·.size)=some (List.length ([.int .u64 r,.int .u32 0,.int .u64 r,.int .u8 1,.int .u8 0,.int .u64 1,.int .u8 2,.bool p,.bool false,.bool false,.int .u64 0]:List Value))):=hd0 (by kernel_rfl)
 have HT:=hd0 T0
 have HB:=hd0 hb
 have HP:=hd0 hp0
 clear h T0 hb hp0 hw0
 go_enter Tryz.func172,Tryz.ntmps172
 go_upto_region 1 with fail
 clear hw0'
 go_upto_region 2 with fail
 go_upto_region 3 with((with_reducible refine wpList_load_mid rfl 212 (.tmp 18) rfl g 18 ?hx [.int .u64 r,.int .u32 0,.int .u64 r,.int .u8 1,.int .u8 0,.int .u64 1,.int .u8 2,.bool p,.bool false,.bool false,.int .u64 0] _ R0.out Tryz.underlying212 ?hu HI2.out ?_);(case hx=>rfl);(case hu=>rfl))
 have hb2:Below w0.heap.size w0 (w0.alloc (.cells #[.int .u64 r,.int .u32 0,.int .u64 r,.int .u8 1,.int .u8 0,.int .u64 1,.int .u8 2,.bool p,.bool false,.bool false,.int .u64 0] 212)):=bAo _
 have gq:=GB.new 212 w0 #[.int .u64 r,.int .u32 0,.int .u64 r,.int .u8 1,.int .u8 0,.int .u64 1,.int .u8 2,.bool p,.bool false,.bool false,.int .u64 0]
 obtain⟨q,hq⟩:∃ z,w0.heap.size=z:=⟨_,rfl⟩
 have T1:=HT.out.later hb2
 have P1:=HP.out.later hb2
 have B1:=HB.out.trans (hb2.mono HB.out.size)
 have hwq:w.heap.size≤q:=by rw[←hq];exact HB.out.size
 rw[hq] at gq ⊢
 obtain⟨w1,hw1⟩:∃ z,w0.alloc (.cells #[.int .u64 r,.int .u32 0,.int .u64 r,.int .u8 1,.int .u8 0,.int .u64 1,.int .u8 2,.bool p,.bool false,.bool false,.int .u64 0] 212)=z:=⟨_,rfl⟩
 rw[hw1] at gq T1 P1 B1 ⊢
 have HT1:=hd0 T1
 have HP1:=hd0 P1
 have HB1:=hd0 B1
 have HQ1:=hd0 gq
 clear gq T1 P1 B1 hb2 hw1 hq R0 HI2 HT HB HP c1
 have HI:Hid ((Tryz.prog.info? 281).map (·.size)=some (Array.size #[Value.int .u64 0,.int .u32 0,.int .u64 0,.int .u8 0,.int .u8 0])):=hd0 (by kernel_rfl)
 have HO1:Hid ((#[.int .u64 0,.int .u32 0,.int .u64 0,.int .u8 0,.int .u8 0]:Array Value).all (·.oneCell')=true):=hd0 (by kernel_rfl)
 have LK:Hid (∀ K:Later w1,Calls Tryz.prog 125 #[.pointer (some ⟨g,16,none⟩)] K.out fun en w'=>en=.returned (.bool true)∧K.out=w'):=hd0 fun K=>(tlink_k g 16 true K.out ((HT1.out.later K.h).x1 0 (by decide) _ rfl) ((HT1.out.later K.h).x1 1 (by decide) _ rfl)).mono (by rintro e w' ⟨rfl,rfl⟩;exact⟨rfl,rfl⟩)
 have l29:∀ K:Later w1,K.out.cell? ⟨g,29,none⟩=some (.int .i64 la):=fun K=>(HT1.out.later K.h).x1 13 (by decide) _ rfl
 have q6:∀ K:Later w1,K.out.cell? ⟨q,6,none⟩=some (.int .u8 2):=fun K=>(HQ1.out.later K.h).c 6 _ rfl
 have q2:∀ K:Later w1,K.out.cell? ⟨q,2,none⟩=some (.int .u64 r):=fun K=>(HQ1.out.later K.h).c 2 _ rfl
 have q4:∀ K:Later w1,K.out.cell? ⟨q,4,none⟩=some (.int .u8 0):=fun K=>(HQ1.out.later K.h).c 4 _ rfl
 have m0:∀ K:Later w1,K.out.cell? ⟨m,0,none⟩=some (.int .u64 id):=fun K=>(HT1.out.later K.h).c0
 have da:(la==0)=false:=beq_eq_false_iff_ne.2 hl
 have dr:(r==id)=false:=beq_eq_false_iff_ne.2 hr
 clear hl hr
 refine wp_region_later (by kernel_rfl) (by kernel_rfl) ?_
 repeat (go_big_quiet_step (first|(go_at_call 125;exact Calls.later_same (LK.out _))))
 refine wpQuiet_nil ?_
 rintro _ ⟨K,rfl⟩
 clear l29 q6 q2 q4 m0 da dr LK
 go_upto_region 5 with fail
 have gQ:=HQ1.out.later K.h
 have gP:=HP1.out.later K.h
 have gT:=HT1.out.later K.h
 have B5:=HB1.out.trans (K.h.mono HB1.out.size)
 obtain⟨w5,hw5⟩:∃ z,K.out=z:=⟨_,rfl⟩
 rw[hw5] at gQ gP gT B5 ⊢
 clear hw5 K HQ1 HP1 HT1 HB1
 have SX:Hid (∀ W,Below w5.heap.size w5 W→W.rangeAt q 0 [.int .u64 r,.int .u32 0,.int .u64 r,.int .u8 1]∧W.cell? ⟨g,16,none⟩=some (.int .u32 5)):=hd0 fun W hW=>⟨fun j v hv=>by
  have hj:j<4:=(List.getElem?_eq_some_iff.1 hv).1
  refine(gQ.later hW).c (0+j) v ?_
  rcases(show j=0∨j=1∨j=2∨j=3 by omega) with rfl|rfl|rfl|rfl <;> exact hv,(gT.later hW).x1 0 (by decide) _ rfl⟩
 have HP5:=hd0 gP
 have HB5:=hd0 B5
 have VF:=hd0 (vfar1 r)
 have HIV:Hid ((Tryz.prog.info? 210).map (·.size)=some (List.length ([.int .u64 r,.int .u32 0,.int .u64 r,.int .u8 1]:List Value))):=hd0 (by kernel_rfl)
 have HIW:Hid ((Tryz.prog.info? 210).map (·.size)=some (List.length ([.int .u64 r,.int .u32 5,.int .u64 r,.int .u8 1]:List Value))):=hd0 (by kernel_rfl)
 have HIS:Hid ((Tryz.prog.info? 210).map (·.size)=some (Array.size #[Value.int .u64 r,.int .u32 5,.int .u64 r,.int .u8 1])):=hd0 (by kernel_rfl)
 have HOV:Hid ((#[.int .u64 r,.int .u32 5,.int .u64 r,.int .u8 1]:Array Value).all (·.oneCell')=true):=hd0 (by kernel_rfl)
 have HIP:Hid ((Tryz.prog.info? 281).map (·.size)=some (Array.size #[Value.int .u64 r,.int .u32 5,.int .u64 r,.int .u8 1,.int .u8 1])):=hd0 (by kernel_rfl)
 have HOP:Hid ((#[.int .u64 r,.int .u32 5,.int .u64 r,.int .u8 1,.int .u8 1]:Array Value).all (·.oneCell')=true):=hd0 (by kernel_rfl)
 have D5:Below w5.heap.size w5 w5.drew:=(Below.refl _ _).drew
 have HLP:=hd0 gP.lt
 clear gQ gP gT B5
 go_cut [8,9] (fun s8 s9 wx=>∃ z,s8=.pointer (some ⟨z,0,none⟩)∧s9=.bool true∧Hid (GB 210 wx z #[.int .u64 r,.int .u32 5,.int .u64 r,.int .u8 1]∧GB 281 wx w.heap.size pathZ∧Below w.heap.size w wx))
 case first =>
  refine wp_region_held_drew (S:=fun W=>W.rangeAt q 0 [.int .u64 r,.int .u32 0,.int .u64 r,.int .u8 1]∧W.cell? ⟨g,16,none⟩=some (.int .u32 5)) (by kernel_rfl) (SX.out _ D5) (fun hHeld=>?_)
  refine tkH 0 ?_ ?h ?_
  case h=>(intro w hSw;go_simp;try with_reducible rfl)
  try simp only[Act.put,zz]
  refine wpAnyH_take (i:=1) (v:=.agg #[.int .u64 r,.int .u32 0,.int .u64 r,.int .u8 1]) rfl (by kernel_rfl) (by kernel_rfl) (by kernel_rfl) (fun _ _ _ h=>h) (yieldsIf_load_mid (by rfl) 210 (.tmp 52) rfl q 0 rfl [.int .u64 r,.int .u32 0,.int .u64 r,.int .u8 1] _ (fun w h=>h.1) Tryz.underlying210 rfl HIV.out) (by assumption) ?_
  try simp only[Act.put,zz]
  refine tkH 2 ?_ ?h ?_
  case h=>(intro w hSw;go_simp;try with_reducible rfl)
  try simp only[Act.put,zz]
  refine tkH 3 ?_ ?h ?_
  case h=>(intro w hSw;go_simp;try with_reducible rfl)
  try simp only[Act.put,zz]
  refine tkH 4 ?_ ?h ?_
  case h=>(intro w hSw;go_simp;try with_reducible rfl)
  try simp only[Act.put,zz]
  refine tkH 5 ?_ ?h ?_
  case h=>(intro w hSw;go_simp;try with_reducible rfl)
  try simp only[Act.put,zz]
  refine wpAnyH_ready (rs:=[6,10]) (by kernel_rfl) (by simp) (AllReadyH.cons rfl (fun K hK=>?_) (AllReadyH.cons rfl (fun K hK=>?_) AllReadyH.nil))
  ·(go_simp;go_at_call 169;(with_reducible refine(VF.out _).mono ?_);rintro en w6 ⟨rfl,hb⟩;have B6:=hd0 (D5.trans hb);refine hK.out _ _ (SX.out _ B6.out) (fun hHeld=>?_);clear hK K hb;try simp only[Act.put,zz])
   refine tkH 7 ?_ ?h ?_
   case h=>(intro w hSw;go_simp;try with_reducible rfl)
   try simp only[Act.put,zz]
   refine tkH 8 ?_ ?h ?_
   case h=>(intro w hSw;go_simp;try with_reducible rfl)
   try simp only[Act.put,zz]
   refine tkH 9 ?_ ?h ?_
   case h=>(intro w hSw;go_simp;try with_reducible rfl)
   try simp only[Act.put,zz]
   have HZ6:=hd0 (GB.new 210 w6 #[.int .u64 0,.int .u32 0,.int .u64 0,.int .u8 0])
   have B7:=hd0 (B6.out.trans (((Below.refl w6.heap.size w6).alloc (Nat.le_refl _) (.cells #[.int .u64 0,.int .u32 0,.int .u64 0,.int .u8 0] 210)).mono B6.out.size))
   refine rdH 10 fun K hK=>?_
   (go_simp;refine hK.out _ _ (SX.out _ B7.out) (fun hHeld=>?_);clear hK K;try simp only[Act.put,zz])
   have HL:=hd0 (show w5.heap.size≤w6.heap.size from B6.out.size)
   refine rdH 11 fun K hK=>?_
   (rw[if_pos (by rfl)];refine wp_store_mid 210 (.tmp 8) (.tmp 59) rfl _ 0 #[.int .u64 r,.int .u32 5,.int .u64 r,.int .u8 1] rfl (by rfl) (HZ6.out.there (Nat.le_refl _)) HIS.out HOV.out ?_;refine hK.out _ _ (SX.out _ (below_cellsG HL.out _ _ _ B7.out)) (fun hHeld=>?_);clear hK K;try simp only[Act.put,zz])
   refine tkH 12 ?_ ?h ?_
   case h=>(intro w hSw;go_simp;try with_reducible rfl)
   try simp only[Act.put,zz]
   refine wpAnyH_done (by kernel_rfl) ?_ _
   go_wp2_with fail
   go_meet
   have hne:w6.heap.size≠w.heap.size:=by have:=HL.out;have:=HLP.out;omega
   exact⟨_,rfl,rfl,hd0 ⟨HZ6.out.store rfl HOV.out,((HP5.out.later B7.out).cellsOther hne _ _ _),HB5.out.trans ((below_cellsG HL.out _ _ _ B7.out).mono HB5.out.size)⟩⟩
  ·have B6:Hid (Below w5.heap.size w5 (w5.alloc (.cells #[.int .u64 0,.int .u32 0,.int .u64 0,.int .u8 0] 210)).drew):=hd0 (((Below.refl w5.heap.size w5).alloc (Nat.le_refl _) (.cells #[.int .u64 0,.int .u32 0,.int .u64 0,.int .u8 0] 210)).drew)
   have Z5:GB 210 (w5.alloc (.cells #[.int .u64 0,.int .u32 0,.int .u64 0,.int .u8 0] 210)).drew w5.heap.size #[.int .u64 0,.int .u32 0,.int .u64 0,.int .u8 0]:=(GB.new 210 w5 #[.int .u64 0,.int .u32 0,.int .u64 0,.int .u8 0]).drew
   (go_simp;refine hK.out _ _ (SX.out _ B6.out) (fun hHeld=>?_);clear hK K;try simp only[Act.put,zz])
   refine rdH 6 fun K hK=>?_
   (go_simp;go_at_call 169;(with_reducible refine(VF.out _).mono ?_);rintro en w6 ⟨rfl,hb⟩;have B7:=hd0 (B6.out.trans (hb.mono B6.out.size));have HZ6:=hd0 (Z5.later hb);refine hK.out _ _ (SX.out _ B7.out) (fun hHeld=>?_);clear hK K hb;try simp only[Act.put,zz])
   refine tkH 7 ?_ ?h ?_
   case h=>(intro w hSw;go_simp;try with_reducible rfl)
   try simp only[Act.put,zz]
   refine tkH 8 ?_ ?h ?_
   case h=>(intro w hSw;go_simp;try with_reducible rfl)
   try simp only[Act.put,zz]
   refine tkH 9 ?_ ?h ?_
   case h=>(intro w hSw;go_simp;try with_reducible rfl)
   try simp only[Act.put,zz]
   refine rdH 11 fun K hK=>?_
   (rw[if_pos (by rfl)];refine wp_store_mid 210 (.tmp 8) (.tmp 59) rfl _ 0 #[.int .u64 r,.int .u32 5,.int .u64 r,.int .u8 1] rfl (by rfl) (HZ6.out.there (Nat.le_refl _)) HIS.out HOV.out ?_;refine hK.out _ _ (SX.out _ (below_cellsG (Nat.le_refl _) _ _ _ B7.out)) (fun hHeld=>?_);clear hK K;try simp only[Act.put,zz])
   refine tkH 12 ?_ ?h ?_
   case h=>(intro w hSw;go_simp;try with_reducible rfl)
   try simp only[Act.put,zz]
   refine wpAnyH_done (by kernel_rfl) ?_ _
   go_wp2_with fail
   go_meet
   have hne:w5.heap.size≠w.heap.size:=by have:=HLP.out;omega
   exact⟨_,rfl,rfl,hd0 ⟨HZ6.out.store rfl HOV.out,((HP5.out.later B7.out).cellsOther hne _ _ _),HB5.out.trans ((below_cellsG (Nat.le_refl _) _ _ _ B7.out).mono HB5.out.size)⟩⟩
 case rest =>
  obtain⟨z,rfl,rfl,hcut⟩:=hcut
  have rz:=hcut.out.1.range
  have TH:Hid (‹World›.there w.heap.size 0 (Array.size #[Value.int .u64 r,.int .u32 5,.int .u64 r,.int .u8 1,.int .u8 1])):=hd0 (hcut.out.2.1.there (Nat.le_refl _))
  go_wp2_with (first
   |((with_reducible refine wpList_load_mid rfl 210 (.tmp 8) rfl z 0 ?hx [.int .u64 r,.int .u32 5,.int .u64 r,.int .u8 1] _ rz Tryz.underlying210 ?hu HIW.out ?_);(case hx=>rfl);(case hu=>rfl))
   |((with_reducible refine wpList_store_mid rfl 281 (.tmp 4) (.tmp 64) rfl w.heap.size 0 #[Value.int .u64 r,.int .u32 5,.int .u64 r,.int .u8 1,.int .u8 1] ?hx ?hy TH.out HIP.out HOP.out ?_);(case hx=>rfl);(case hy=>rfl)))
  exact bodyPost_ret (v:=.tuple #[.agg #[.int .u64 r,.int .u32 5,.int .u64 r,.int .u8 1,.int .u8 1],.bool true]) (res_two (p:=4) (u:=5) (d:=_) rfl rfl Tryz.underlying281 _ _ w.heap.size _ rfl (hcut.out.2.1.store rfl HOP.out) (by kernel_rfl)) rfl ⟨rfl,below_cellsG (Nat.le_refl _) _ _ _ hcut.out.2.2⟩
end Go.Proofs.YtghaobakpdninaaGreatDoor
