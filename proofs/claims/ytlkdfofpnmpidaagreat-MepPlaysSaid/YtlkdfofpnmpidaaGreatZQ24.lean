/- ZQ24 -/
import Derived.Test.YtlkdfofpnmpidaaGreatZQ23
set_option linter.unusedVariables false
set_option linter.unusedSimpArgs false
set_option maxRecDepth 100000
set_option maxHeartbeats 16000000
namespace Go.Proofs.YtlkdfofpnmpidaaGreat
open Go.RowKit
theorem lmE_iff (f:List UInt8):lmE f=0↔f.length=4:=by
 by_cases h1:f.length<4
 ·have q1:lm1 f=([],[],3):=by unfold lm1 rdText;rw[if_neg (by omega),if_pos (by omega)]
  unfold lmE;rw[q1];constructor
  ·intro h;exact absurd h (by decide)
  ·intro h;omega
 have q1:lm1 f=(f.take 4,f.drop 4,0):=by unfold lm1 rdText;rw[if_neg (by omega),if_neg (by omega)];simp
 unfold lmE rdEnd;rw[q1]
 by_cases h5:f.length=4
 ·rw[if_neg (by simp;omega)];simp[h5]
 ·rw[if_pos (by simp;omega)]
  constructor
  ·intro h;exact absurd h (by simp[rdFail])
  ·intro h;exact absurd h h5
theorem lm_4 (f:List UInt8)(h:f.length=4):lm1 f=(f.take 4,f.drop 4,0):=by
 unfold lm1 rdText;rw[if_neg (by omega),if_neg (by omega)];simp
structure KR (w W:World)(a b c:Int)(f:List UInt8)(v:Value):Prop where
 pb:PB 115 W w.heap.size a b c f v
 pz:LB 129 W (w.heap.size+1) 0 false 0 []
 bel:Below w.heap.size w W
theorem KR.later {w W W':World}{a b c:Int}{f:List UInt8}{v:Value}(h:KR w W a b c f v)(hb:Below W.heap.size W W'):KR w W' a b c f v:=⟨h.pb.later hb,h.pz.later hb,h.bel.trans (hb.mono h.bel.size)⟩
theorem refTake14_any (v:Value)(l:List Th)(a b c:Int)(f:List UInt8)(w:World)(hf:f.length≤1000)(hv:Tls w v l)(hl:l.length≤1000):Calls Tryz.prog 58 #[.agg #[.int .u8 a,.int .u8 b,.int .u8 c,.string (bs f),v]] w fun en w' =>
  en=.returned (.tuple #[.agg #[.int .u8 (tkL a b f l).1,.bool (tkL a b f l).2.1,.int .u32 (tkL a b f l).2.2.1,.string (bs (tkL a b f l).2.2.2.1)],.int .i64 (tkL a b f l).2.2.2.2])∧Below w.heap.size w w':=by
 obtain⟨vx,vk,hvv,-⟩:=hv.shape
 obtain⟨vn,hvn⟩:∃ n,l.length=n:=⟨_,rfl⟩
 rw[hvn] at hvv
 subst hvv
 have hsf:=bs_size f
 obtain⟨R,hR⟩:∃ R,tkL a b f l=R:=⟨_,rfl⟩
 rw[hR]
 have HR:=hd0 hR
 clear hR
 obtain⟨dt,hdt⟩:∃ y,(findT l 3).1=y:=⟨_,rfl⟩
 obtain⟨dk,hdk⟩:∃ y,(findT l 3).2=y:=⟨_,rfl⟩
 have F1:Hid (∀ w,Tls w (.slice vx vn vk) l→Calls Tryz.prog 102 #[.slice vx vn vk,.int .u8 3] w fun en w'=>en=.returned (.tuple #[.string (bs dt),.bool dk])∧w=w'):=fun w hv=>by
  have h:=refFind_any (.slice vx vn vk) l 3 w hv (by omega)
  rw[hdt,hdk] at h;exact h
 have HV:=hd0 hv
 clear hv hl hvn hdk
 go_enter Tryz.func58,Tryz.ntmps58
 go_upto_region 1 with fail
 have pb0:=(PB.new 115 w a b c f (.slice vx vn vk)).later (bA (.cells #[.int .u8 0,.bool false,.int .u32 0,.string { data:=#[] }] 129))
 have pz:LB 129 ((w.alloc (.cells #[.int .u8 a,.int .u8 b,.int .u8 c,.string (bs f),.slice vx vn vk] 115)).alloc (.cells #[.int .u8 0,.bool false,.int .u32 0,.string { data:=#[] }] 129)) (w.heap.size+1) 0 false 0 []:=by
  have:=LB.new 129 (w.alloc (.cells #[.int .u8 a,.int .u8 b,.int .u8 c,.string (bs f),.slice vx vn vk] 115)) 0 false 0 []
  rw[show(w.alloc (.cells #[.int .u8 a,.int .u8 b,.int .u8 c,.string (bs f),.slice vx vn vk] 115)).heap.size=w.heap.size+1 by simp] at this
  exact this
 have hb0:Below w.heap.size w ((w.alloc (.cells #[.int .u8 a,.int .u8 b,.int .u8 c,.string (bs f),.slice vx vn vk] 115)).alloc (.cells #[.int .u8 0,.bool false,.int .u32 0,.string { data:=#[] }] 129)):=(bA _).alloc (by simp) _
 obtain⟨w0,hw0⟩:∃ k,(w.alloc (.cells #[.int .u8 a,.int .u8 b,.int .u8 c,.string (bs f),.slice vx vn vk] 115)).alloc (.cells #[.int .u8 0,.bool false,.int .u32 0,.string { data:=#[] }] 129)=k:=⟨_,rfl⟩
 rw[hw0] at pb0 pz hb0 ⊢
 have KR0:=hd0 (KR.mk pb0 pz hb0)
 clear hw0 pb0 pz hb0
 have c1:=KR0.out.pb.c1
 have c3:=KR0.out.pb.c3
 by_cases hb:(b=2∨b=3)∧f.length=4
 rotate_left
 ·have hR2:R=(0,false,0,[],4):=by
   rw[←HR.out];unfold tkL;rw[if_neg (fun h=>hb ⟨h.1,(lmE_iff f).1 h.2⟩)]
  have HR2:=hd0 hR2
  clear hR2
  have z0:=KR0.out.pz.c0
  have z1:=KR0.out.pz.c1
  have z2:=KR0.out.pz.c2
  have z3:=KR0.out.pz.c3
  have y0:=KR0.out.pz.fr 0
  have y1:=KR0.out.pz.fr 1
  have y2:=KR0.out.pz.fr 2
  have y3:=KR0.out.pz.fr 3
  by_cases h2:b=2
  ·have d2:(b != 2)=false:=by rw[h2];rfl
   have dl:((f.length:Int) != 4)=true:=by rw[bne_iff_ne];intro h;exact hb ⟨Or.inl h2,by omega⟩
   clear hb h2
   go_wp2_with fail
   refine bodyPost_ret (v:=.tuple #[.agg #[.int .u8 0,.bool false,.int .u32 0,.string (bs [])],.int .i64 4]) (by simp[results,Tryz.results58,go_sem,z0,z1,z2,z3];rfl) rfl ⟨by rw[HR2.out],below_set (below_set (below_set (below_set KR0.out.bel (by omega) _) (by omega) _) (by omega) _) (by omega) _⟩
  ·have d2:(b != 2)=true:=by rw[bne_iff_ne];exact h2
   by_cases h3:b=3
   ·have d3:(b != 3)=false:=by rw[h3];rfl
    have dl:((f.length:Int) != 4)=true:=by rw[bne_iff_ne];intro h;exact hb ⟨Or.inr h3,by omega⟩
    clear hb h2 h3
    go_wp2_with fail
    refine bodyPost_ret (v:=.tuple #[.agg #[.int .u8 0,.bool false,.int .u32 0,.string (bs [])],.int .i64 4]) (by simp[results,Tryz.results58,go_sem,z0,z1,z2,z3];rfl) rfl ⟨by rw[HR2.out],below_set (below_set (below_set (below_set KR0.out.bel (by omega) _) (by omega) _) (by omega) _) (by omega) _⟩
   ·have d3:(b != 3)=true:=by rw[bne_iff_ne];exact h3
    clear hb h2 h3
    go_wp2_with fail
    refine bodyPost_ret (v:=.tuple #[.agg #[.int .u8 0,.bool false,.int .u32 0,.string (bs [])],.int .i64 4]) (by simp[results,Tryz.results58,go_sem,z0,z1,z2,z3];rfl) rfl ⟨by rw[HR2.out],below_set (below_set (below_set (below_set KR0.out.bel (by omega) _) (by omega) _) (by omega) _) (by omega) _⟩
 obtain⟨hb1,h4⟩:=hb
 have q1:=lm_4 f h4
 obtain⟨nm,hnm⟩:∃ y,numOf (lm1 f).1=y:=⟨_,rfl⟩
 obtain⟨l1,hl1⟩:∃ y,f.drop 4=y:=⟨_,rfl⟩
 have N1:Hid (∀ w,Calls Tryz.prog 101 #[.agg #[.string (bs f),.int .i64 0],.int .i64 4] w fun en w'=>en=.returned (.tuple #[.int .u64 nm,.agg #[.string (bs l1),.int .i64 0]])∧Below w.heap.size w w'):=fun w=>by
  have h:=refNum_any f 0 4 w (by omega) (by decide)
  rw[show rdText f 0 ((4:Nat):Int)=lm1 f from rfl,hnm] at h
  rw[q1,hl1] at h;exact h
 have b1:=(numOf_bd (lm1 f).1).1
 have b1':=numOf_lt (lm1 f).1 4 4294967296 (by rw[q1];simp;omega) (by decide)
 rw[hnm] at b1 b1'
 have w1:IntKind.u32.wrap nm=nm:=IntWalk.u32_in _ (by omega)
 obtain⟨Q,hQ⟩:∃ y,decide (b=2)=y:=⟨_,rfl⟩
 have hRR:R=(a,Q,nm,dt,0):=by
  rw[←HR.out];unfold tkL;rw[if_pos ⟨hb1,(lmE_iff f).2 h4⟩,hnm,hdt,hQ]
 have HRR:=hd0 hRR
 have dl:((f.length:Int) != 4)=false:=by rw[h4];rfl
 clear hRR q1 hnm hl1 b1 b1' hf h4 hdt
 rcases hb1 with hb1|hb1
 all_goals subst hb1
 all_goals have hq:=hQ
 all_goals simp only[decide_true,decide_false,Int.reduceEq] at hq
 all_goals subst hq
 all_goals clear hQ
 all_goals go_wp2_with fail
 all_goals with_reducible refine(N1.out _).mono ?_
 all_goals rintro en w2_ ⟨rfl,hb2⟩
 all_goals have KR2:=hd0 (KR0.out.later hb2)
 all_goals clear hb2 KR0 c1 c3
 all_goals go_upto_region 4 with fail
 all_goals have KR3:=hd0 (KR2.out.later ((Below.refl w2_.heap.size w2_).alloc (Nat.le_refl _) (.cells #[.string (bs l1),.int .i64 0] 198)))
 all_goals obtain⟨w3,hw3⟩:∃ k,w2_.alloc (.cells #[.string (bs l1),.int .i64 0] 198)=k:=⟨_,rfl⟩
 all_goals rw[hw3] at KR3 ⊢
 all_goals clear hw3 KR2
 all_goals have c4:=KR3.out.pb.c4
 all_goals go_wp2_with fail
 all_goals with_reducible refine(F1.out _ (HV.out.later KR3.out.bel)).mono ?_
 all_goals rintro en w4 ⟨rfl,rfl⟩
 all_goals have c0:=KR3.out.pb.c0
 all_goals have c1:=KR3.out.pb.c1
 all_goals have z0:=KR3.out.pz.c0
 all_goals have z1:=KR3.out.pz.c1
 all_goals have z2:=KR3.out.pz.c2
 all_goals have z3:=KR3.out.pz.c3
 all_goals have y0:=KR3.out.pz.fr 0
 all_goals have y1:=KR3.out.pz.fr 1
 all_goals have y2:=KR3.out.pz.fr 2
 all_goals have y3:=KR3.out.pz.fr 3
 all_goals go_wp2_with fail
 ·refine bodyPost_ret (v:=.tuple #[.agg #[.int .u8 a,.bool true,.int .u32 nm,.string (bs dt)],.int .i64 0]) (by simp[results,Tryz.results58,go_sem,z0,z1,z2,z3]) rfl ⟨by rw[HRR.out],below_set (below_set (below_set (below_set KR3.out.bel (by omega) _) (by omega) _) (by omega) _) (by omega) _⟩
 ·refine bodyPost_ret (v:=.tuple #[.agg #[.int .u8 a,.bool false,.int .u32 nm,.string (bs dt)],.int .i64 0]) (by simp[results,Tryz.results58,go_sem,z0,z1,z2,z3]) rfl ⟨by rw[HRR.out],below_set (below_set (below_set (below_set KR3.out.bel (by omega) _) (by omega) _) (by omega) _) (by omega) _⟩
theorem be_one (n:Int)(h:0≤n∧n<256):be 1 n=[byt n]:=by
 have e:n / 2 ^ (8*(1-1-0)) % 256=n:=by simp;omega
 have e2:be 1 n=[UInt8.ofNat (n / 2 ^ (8*(1-1-0)) % 256).toNat]:=by simp[be,beB,List.range_succ]
 rw[e2,e];rfl
theorem refPut15_any (t:Tr)(w:World)(ht:t.Ok):Calls Tryz.prog 52 #[.agg #[.int .u8 t.lv,.int .u32 t.nm,.int .u8 t.tl,.int .u8 t.fr.a,.int .u8 t.fr.b,.int .u8 t.fr.c,.int .u8 t.fr.d,.int .u8 t.fr.e,.int .u8 t.fr.f,.int .u8 t.tt.a,.int .u8 t.tt.b,.int .u8 t.tt.c,.int .u8 t.tt.d,.int .u8 t.tt.e,.int .u8 t.tt.f]] w fun en w' =>
  en=.returned (.tuple #[.agg #[.int .u8 (putTr t).1,.int .u8 (putTr t).2.1,.int .u8 (putTr t).2.2.1,.string (bs (putTr t).2.2.2.1),.slice none 0 0],.int .i64 (putTr t).2.2.2.2])∧Below w.heap.size w w':=by
 obtain⟨R,hR⟩:∃ R,putTr t=R:=⟨_,rfl⟩
 rw[hR]
 have HR:=hd0 hR
 have HT:=hd0 ht
 clear hR ht
 go_enter Tryz.func52,Tryz.ntmps52
 go_upto_region 1 with fail
 have g0:=(GB.new 134 w #[.int .u8 t.lv,.int .u32 t.nm,.int .u8 t.tl,.int .u8 t.fr.a,.int .u8 t.fr.b,.int .u8 t.fr.c,.int .u8 t.fr.d,.int .u8 t.fr.e,.int .u8 t.fr.f,.int .u8 t.tt.a,.int .u8 t.tt.b,.int .u8 t.tt.c,.int .u8 t.tt.d,.int .u8 t.tt.e,.int .u8 t.tt.f]).later (bA (.cells yU 115))
 have pz:PB 115 ((w.alloc (.cells #[.int .u8 t.lv,.int .u32 t.nm,.int .u8 t.tl,.int .u8 t.fr.a,.int .u8 t.fr.b,.int .u8 t.fr.c,.int .u8 t.fr.d,.int .u8 t.fr.e,.int .u8 t.fr.f,.int .u8 t.tt.a,.int .u8 t.tt.b,.int .u8 t.tt.c,.int .u8 t.tt.d,.int .u8 t.tt.e,.int .u8 t.tt.f] 134)).alloc (.cells yU 115)) (w.heap.size+1) 0 0 0 [] (.slice none 0 0):=by
  have:=PB.new 115 (w.alloc (.cells #[.int .u8 t.lv,.int .u32 t.nm,.int .u8 t.tl,.int .u8 t.fr.a,.int .u8 t.fr.b,.int .u8 t.fr.c,.int .u8 t.fr.d,.int .u8 t.fr.e,.int .u8 t.fr.f,.int .u8 t.tt.a,.int .u8 t.tt.b,.int .u8 t.tt.c,.int .u8 t.tt.d,.int .u8 t.tt.e,.int .u8 t.tt.f] 134)) 0 0 0 [] (.slice none 0 0)
  rw[show(w.alloc (.cells #[.int .u8 t.lv,.int .u32 t.nm,.int .u8 t.tl,.int .u8 t.fr.a,.int .u8 t.fr.b,.int .u8 t.fr.c,.int .u8 t.fr.d,.int .u8 t.fr.e,.int .u8 t.fr.f,.int .u8 t.tt.a,.int .u8 t.tt.b,.int .u8 t.tt.c,.int .u8 t.tt.d,.int .u8 t.tt.e,.int .u8 t.tt.f] 134)).heap.size=w.heap.size+1 by simp] at this
  exact this
 have hb0:Below w.heap.size w ((w.alloc (.cells #[.int .u8 t.lv,.int .u32 t.nm,.int .u8 t.tl,.int .u8 t.fr.a,.int .u8 t.fr.b,.int .u8 t.fr.c,.int .u8 t.fr.d,.int .u8 t.fr.e,.int .u8 t.fr.f,.int .u8 t.tt.a,.int .u8 t.tt.b,.int .u8 t.tt.c,.int .u8 t.tt.d,.int .u8 t.tt.e,.int .u8 t.tt.f] 134)).alloc (.cells yU 115)):=(bA _).alloc (by simp) _
 obtain⟨w0,hw0⟩:∃ k,(w.alloc (.cells #[.int .u8 t.lv,.int .u32 t.nm,.int .u8 t.tl,.int .u8 t.fr.a,.int .u8 t.fr.b,.int .u8 t.fr.c,.int .u8 t.fr.d,.int .u8 t.fr.e,.int .u8 t.fr.f,.int .u8 t.tt.a,.int .u8 t.tt.b,.int .u8 t.tt.c,.int .u8 t.tt.d,.int .u8 t.tt.e,.int .u8 t.tt.f] 134)).alloc (.cells yU 115)=k:=⟨_,rfl⟩
 rw[hw0] at g0 pz hb0 ⊢
 have c0:w0.cell? ⟨w.heap.size,0,none⟩=some (.int .u8 t.lv):=g0.c 0 _ rfl
 have z0:=pz.c0
 have z1:=pz.c1
 have z2:=pz.c2
 have z3:=pz.c3
 have z4:=pz.c4
 have y0:=pz.fr 0
 have y1:=pz.fr 1
 have y2:=pz.fr 2
 have y3:=pz.fr 3
 have y4:=pz.fr 4
 have G0:=hd0 g0
 have PZ0:=hd0 pz
 have HB0:=hd0 hb0
 clear hw0 g0 pz hb0
 by_cases h7:7<t.lv
 ·have d7:decide ((7:Int)<t.lv)=true:=decide_eq_true h7
  have hRR:R=(0,0,0,[],2):=by rw[←HR.out];unfold putTr;rw[if_pos h7]
  have HRR:=hd0 hRR
  clear hRR h7
  go_wp2_with fail
  refine bodyPost_ret (v:=.tuple #[.agg #[.int .u8 0,.int .u8 0,.int .u8 0,.string (bs []),.slice none 0 0],.int .i64 2]) (by simp[results,Tryz.results52,go_sem,z0,z1,z2,z3,z4];rfl) rfl ⟨by rw[HRR.out],below_set (below_set (below_set (below_set (below_set HB0.out (by omega) _) (by omega) _) (by omega) _) (by omega) _) (by omega) _⟩
 have d7:decide ((7:Int)<t.lv)=false:=decide_eq_false h7
 have hRR:R=(t.lv,5,128,byTr t,0):=by rw[←HR.out];unfold putTr;rw[if_neg h7]
 have HRR:=hd0 hRR
 clear hRR h7 z0 z1 z2 z3 z4 y0 y1 y2 y3 y4
 obtain⟨X,hX⟩:∃ X,be 4 t.nm=X:=⟨_,rfl⟩
 obtain⟨Y,hY⟩:∃ Y,[byt t.tl]=Y:=⟨_,rfl⟩
 obtain⟨M,hM⟩:∃ M,t.fr.by=M:=⟨_,rfl⟩
 obtain⟨N,hN⟩:∃ M,t.tt.by=M:=⟨_,rfl⟩
 have N1:Hid (∀ w,Calls Tryz.prog 84 #[.int .u64 t.nm,.int .i64 4] w fun en w'=>en=.returned (.string (bs X))∧Below w.heap.size w w'):=fun w=>by
  rw[←hX];exact num_be 4 t.nm w HT.out.nm.1 (by have:=HT.out.nm.2;omega) (by omega)
 have N2:Hid (∀ w,Calls Tryz.prog 84 #[.int .u64 t.tl,.int .i64 1] w fun en w'=>en=.returned (.string (bs Y))∧Below w.heap.size w w'):=fun w=>by
  rw[←hY,← be_one _ HT.out.tl];exact num_be 1 t.tl w HT.out.tl.1 (by have:=HT.out.tl.2;omega) (by omega)
 have wn:IntKind.u64.wrap t.nm=t.nm:=IntWalk.u64_in _ (by have:=HT.out.nm;omega)
 have wt:IntKind.u64.wrap t.tl=t.tl:=IntWalk.u64_in _ (by have:=HT.out.tl;omega)
 have lX:X.length=4:=by rw[←hX];exact be_length _ _
 have lY:Y.length=1:=by rw[←hY];rfl
 have lM:M.length=6:=by rw[←hM];rfl
 have lN:N.length=6:=by rw[←hN];rfl
 have a1:=run_add_bs X Y (by omega)
 have a2:=run_add_bs (X++Y) M (by simp;omega)
 have a3:=run_add_bs (X++Y++M) N (by simp;omega)
 obtain⟨X1,hX1⟩:∃ Z,X++Y=Z:=⟨_,rfl⟩
 rw[hX1] at a1 a2 a3
 obtain⟨X2,hX2⟩:∃ Z,X1++M=Z:=⟨_,rfl⟩
 rw[hX2] at a2 a3
 obtain⟨X3,hX3⟩:∃ Z,X2++N=Z:=⟨_,rfl⟩
 rw[hX3] at a3
 have HX3:=hd0 (show byTr t=X3 by rw[←hX3,← hX2,← hX1,← hX,← hY,← hM,← hN];rfl)
 have k1:=Later.cell (show w0.cell? ⟨w.heap.size,1,none⟩=some (.int .u32 t.nm) from G0.out.c 1 _ rfl)
 have k2:=Later.cell (show w0.cell? ⟨w.heap.size,2,none⟩=some (.int .u8 t.tl) from G0.out.c 2 _ rfl)
 have r3:∀ k:Later w0,(convert 39 9 (.slice (some ⟨w.heap.size,3,none⟩) 6 6)).run Tryz.prog k.out=.ok (.string (bs M)) k.out:=fun k=>by
  have g:=G0.out.later k.h
  rw[←hM]
  exact run_string_src (srcM (g.c 3 _ rfl) (g.c 4 _ rfl) (g.c 5 _ rfl) (g.c 6 _ rfl) (g.c 7 _ rfl) (g.c 8 _ rfl) HT.out.fr)
 have r9:∀ k:Later w0,(convert 39 9 (.slice (some ⟨w.heap.size,9,none⟩) 6 6)).run Tryz.prog k.out=.ok (.string (bs N)) k.out:=fun k=>by
  have g:=G0.out.later k.h
  rw[←hN]
  exact run_string_src (srcM (g.c 9 _ rfl) (g.c 10 _ rfl) (g.c 11 _ rfl) (g.c 12 _ rfl) (g.c 13 _ rfl) (g.c 14 _ rfl) HT.out.tt)
 clear hX hY hM hN hX1 hX2 hX3 lX lY lM lN
 go_upto_region 3 with fail
 go_cut [4] (fun s4 wx=>s4=.string (bs X3)∧Hid (∃ k:Later w0,wx=k.out))
 case first =>
  refine wp_region_later (by kernel_rfl) (by kernel_rfl) ?_
  repeat (go_big_quiet_step (first|(go_at_call 84;first|(with_reducible exact Calls.later (N1.out _))|(with_reducible exact Calls.later (N2.out _)))))
  refine wpQuiet_nil ?_
  rintro _ ⟨K,rfl⟩
  go_wp2_with fail
  go_meet
  exact⟨rfl,hd0 ⟨K,rfl⟩⟩
 case rest =>
  obtain⟨rfl,HK⟩:=hcut
  obtain⟨K,hK⟩:=HK.out
  have g2:=G0.out.later K.h
  have p2:=PZ0.out.later K.h
  have b2:=Later.bel HB0.out K
  rw[←hK] at g2 p2 b2
  clear hK HK r3 r9 k1 k2 c0
  have c0:wc.cell? ⟨w.heap.size,0,none⟩=some (.int .u8 t.lv):=g2.c 0 _ rfl
  have z0:=p2.c0
  have z1:=p2.c1
  have z2:=p2.c2
  have z3:=p2.c3
  have z4:=p2.c4
  have y0:=p2.fr 0
  have y1:=p2.fr 1
  have y2:=p2.fr 2
  have y3:=p2.fr 3
  have y4:=p2.fr 4
  have HB3:=hd0 b2
  clear g2 p2 b2 G0 PZ0 HB0
  go_wp2_with fail
  refine bodyPost_ret (v:=.tuple #[.agg #[.int .u8 t.lv,.int .u8 5,.int .u8 128,.string (bs X3),.slice none 0 0],.int .i64 0]) (by simp[results,Tryz.results52,go_sem,z0,z1,z2,z3,z4]) rfl ⟨by rw[HRR.out,HX3.out],below_set (below_set (below_set (below_set (below_set HB3.out (by omega) _) (by omega) _) (by omega) _) (by omega) _) (by omega) _⟩
theorem prtL_len (k:UInt8)(m:Mc):(prtL k m).length≤1:=by unfold prtL;split <;> simp
structure RT (w W:World)(A:Array Value):Prop where
 g:GB 153 W w.heap.size A
 z:PB 115 W (w.heap.size+1) 0 0 0 [] (.slice none 0 0)
 bel:Below w.heap.size w W
section
variable {w W W':World} {A:Array Value}
theorem RT.later (h:RT w W A)(hb:Below W.heap.size W W'):RT w W' A:=⟨h.g.later hb,h.z.later hb,h.bel.trans (hb.mono h.bel.size)⟩
theorem RT.drew (h:RT w W A):RT w W.drew A:=h.later (Below.refl _ _).drew
theorem RT.lt (h:RT w W A):w.heap.size+1<W.heap.size:=h.z.lt
theorem RT.set (h:RT w W A){q o:Nat}(hq:w.heap.size+1<q)(v:Value):RT w (W.setCell ⟨q,o,none⟩ v) A :=
 ⟨h.g.other (by omega) v,h.z.other (by omega) v,below_set h.bel (by omega) v⟩
theorem RT.two (h:RT w W A){r:Rp}(hA:A=#[.int .u8 r.lv,.int .u32 r.nm,.int .u8 r.tl,.bool r.st,.bool r.en,.int .u8 r.mi.a,.int .u8 r.mi.b,.int .u8 r.mi.c,.int .u8 r.mi.d,.int .u8 r.mi.e,.int .u8 r.mi.f,.int .u8 r.mo.a,.int .u8 r.mo.b,.int .u8 r.mo.c,.int .u8 r.mo.d,.int .u8 r.mo.e,.int .u8 r.mo.f]):W.cell? ⟨w.heap.size,1,none⟩=some (.int .u32 r.nm)∧W.cell? ⟨w.heap.size,2,none⟩=some (.int .u8 r.tl) :=
 ⟨h.g.c 1 _ (by rw[hA];rfl),h.g.c 2 _ (by rw[hA];rfl)⟩
theorem PB.set3N {T:TypeId}{q:Nat}{a b c:Int}{f:List UInt8}{v:Value}(h:PB T W q a b c f v)(g:List UInt8):PB T (W.setCell ⟨q,3,none⟩ (.string (bs g))) q a b c g v:=by
 unfold PB at *;simp[World.setCell,Array.getElem?_modify,h]
theorem RT.belowQ (h:RT w W A){q:Nat}(hq:w.heap.size+1<q)(hb:Below (q+1) W W')(v:Value):RT w (W'.setCell ⟨q,4,none⟩ v) A :=
 RT.set ⟨h.g.below (by omega) hb,h.z.below (by omega) hb,h.bel.trans (hb.mono (by omega))⟩ hq v
end
theorem refPutR15_any (r:Rp)(w:World)(hr:r.Ok):Calls Tryz.prog 60 #[.agg #[.int .u8 r.lv,.int .u32 r.nm,.int .u8 r.tl,.bool r.st,.bool r.en,.int .u8 r.mi.a,.int .u8 r.mi.b,.int .u8 r.mi.c,.int .u8 r.mi.d,.int .u8 r.mi.e,.int .u8 r.mi.f,.int .u8 r.mo.a,.int .u8 r.mo.b,.int .u8 r.mo.c,.int .u8 r.mo.d,.int .u8 r.mo.e,.int .u8 r.mo.f]] w fun en w' =>
  ∃ v',en=.returned (.tuple #[.agg #[.int .u8 (putRp r).1,.int .u8 (putRp r).2.1,.int .u8 (putRp r).2.2.1,.string (bs (putRp r).2.2.2.1),v'],.int .i64 (putRp r).2.2.2.2.2])∧TlR w' w.heap.size v' (putRp r).2.2.2.2.1∧Below w.heap.size w w':=by
 obtain⟨R,hR⟩:∃ R,putRp r=R:=⟨_,rfl⟩
 rw[hR]
 have HR:=hd0 hR
 have HO:=hd0 hr
 clear hR hr
 go_enter Tryz.func60,Tryz.ntmps60
 go_upto_region 1 with fail
 have g0:=(GB.new 153 w #[.int .u8 r.lv,.int .u32 r.nm,.int .u8 r.tl,.bool r.st,.bool r.en,.int .u8 r.mi.a,.int .u8 r.mi.b,.int .u8 r.mi.c,.int .u8 r.mi.d,.int .u8 r.mi.e,.int .u8 r.mi.f,.int .u8 r.mo.a,.int .u8 r.mo.b,.int .u8 r.mo.c,.int .u8 r.mo.d,.int .u8 r.mo.e,.int .u8 r.mo.f]).later (bA (.cells yU 115))
 have pz:PB 115 ((w.alloc (.cells #[.int .u8 r.lv,.int .u32 r.nm,.int .u8 r.tl,.bool r.st,.bool r.en,.int .u8 r.mi.a,.int .u8 r.mi.b,.int .u8 r.mi.c,.int .u8 r.mi.d,.int .u8 r.mi.e,.int .u8 r.mi.f,.int .u8 r.mo.a,.int .u8 r.mo.b,.int .u8 r.mo.c,.int .u8 r.mo.d,.int .u8 r.mo.e,.int .u8 r.mo.f] 153)).alloc (.cells yU 115)) (w.heap.size+1) 0 0 0 [] (.slice none 0 0):=by
  have:=PB.new 115 (w.alloc (.cells #[.int .u8 r.lv,.int .u32 r.nm,.int .u8 r.tl,.bool r.st,.bool r.en,.int .u8 r.mi.a,.int .u8 r.mi.b,.int .u8 r.mi.c,.int .u8 r.mi.d,.int .u8 r.mi.e,.int .u8 r.mi.f,.int .u8 r.mo.a,.int .u8 r.mo.b,.int .u8 r.mo.c,.int .u8 r.mo.d,.int .u8 r.mo.e,.int .u8 r.mo.f] 153)) 0 0 0 [] (.slice none 0 0)
  rw[show(w.alloc (.cells #[.int .u8 r.lv,.int .u32 r.nm,.int .u8 r.tl,.bool r.st,.bool r.en,.int .u8 r.mi.a,.int .u8 r.mi.b,.int .u8 r.mi.c,.int .u8 r.mi.d,.int .u8 r.mi.e,.int .u8 r.mi.f,.int .u8 r.mo.a,.int .u8 r.mo.b,.int .u8 r.mo.c,.int .u8 r.mo.d,.int .u8 r.mo.e,.int .u8 r.mo.f] 153)).heap.size=w.heap.size+1 by simp] at this
  exact this
 have hb0:Below w.heap.size w ((w.alloc (.cells #[.int .u8 r.lv,.int .u32 r.nm,.int .u8 r.tl,.bool r.st,.bool r.en,.int .u8 r.mi.a,.int .u8 r.mi.b,.int .u8 r.mi.c,.int .u8 r.mi.d,.int .u8 r.mi.e,.int .u8 r.mi.f,.int .u8 r.mo.a,.int .u8 r.mo.b,.int .u8 r.mo.c,.int .u8 r.mo.d,.int .u8 r.mo.e,.int .u8 r.mo.f] 153)).alloc (.cells yU 115)):=(bA _).alloc (by simp) _
 obtain⟨w0,hw0⟩:∃ k,(w.alloc (.cells #[.int .u8 r.lv,.int .u32 r.nm,.int .u8 r.tl,.bool r.st,.bool r.en,.int .u8 r.mi.a,.int .u8 r.mi.b,.int .u8 r.mi.c,.int .u8 r.mi.d,.int .u8 r.mi.e,.int .u8 r.mi.f,.int .u8 r.mo.a,.int .u8 r.mo.b,.int .u8 r.mo.c,.int .u8 r.mo.d,.int .u8 r.mo.e,.int .u8 r.mo.f] 153)).alloc (.cells yU 115)=k:=⟨_,rfl⟩
 obtain⟨A,hA⟩:∃ A:Array Value,A=#[.int .u8 r.lv,.int .u32 r.nm,.int .u8 r.tl,.bool r.st,.bool r.en,.int .u8 r.mi.a,.int .u8 r.mi.b,.int .u8 r.mi.c,.int .u8 r.mi.d,.int .u8 r.mi.e,.int .u8 r.mi.f,.int .u8 r.mo.a,.int .u8 r.mo.b,.int .u8 r.mo.c,.int .u8 r.mo.d,.int .u8 r.mo.e,.int .u8 r.mo.f]:=⟨_,rfl⟩
 rw[hw0,← hA] at g0
 rw[hw0] at pz hb0
 rw[hw0,← hA]
 have c0:w0.cell? ⟨w.heap.size,0,none⟩=some (.int .u8 r.lv):=g0.c 0 _ (by rw[hA];rfl)
 have RS:=hd0 (RT.mk g0 pz hb0)
 have HA:=hd0 hA
 clear hw0 g0 pz hb0 hA
 by_cases h7:7<r.lv
 ·have d7:decide ((7:Int)<r.lv)=true:=decide_eq_true h7
  have hRR:R=(0,0,0,[],[],2):=by rw[←HR.out];unfold putRp;rw[if_pos h7]
  have HRR:=hd0 hRR
  clear hRR h7
  have z0:=RS.out.z.c0
  have z1:=RS.out.z.c1
  have z2:=RS.out.z.c2
  have z3:=RS.out.z.c3
  have z4:=RS.out.z.c4
  have y0:=RS.out.z.fr 0
  have y1:=RS.out.z.fr 1
  have y2:=RS.out.z.fr 2
  have y3:=RS.out.z.fr 3
  have y4:=RS.out.z.fr 4
  go_wp2_with fail
  refine bodyPost_ret (v:=.tuple #[.agg #[.int .u8 0,.int .u8 0,.int .u8 0,.string (bs []),.slice none 0 0],.int .i64 2]) (by simp[results,Tryz.results60,go_sem,z0,z1,z2,z3,z4];rfl) rfl ⟨_,by rw[HRR.out],by rw[HRR.out];exact TlR.none _ _,below_set (below_set (below_set (below_set (below_set RS.out.bel (by omega) _) (by omega) _) (by omega) _) (by omega) _) (by omega) _⟩
 have d7:decide ((7:Int)<r.lv)=false:=decide_eq_false h7
 have hRR:R=(r.lv,4,flR r,fxR r,prtL 5 r.mi++prtL 6 r.mo,0):=by rw[←HR.out];unfold putRp;rw[if_neg h7]
 have HRR:=hd0 hRR
 clear hRR h7
 go_upto_region 4 with fail
 have pq:=PB.new 115 w0 r.lv 4 0 [] (.slice none 0 0)
 have aa:=(Below.refl w0.heap.size w0).alloc (Nat.le_refl _) (.cells #[.int .u8 r.lv,.int .u8 4,.int .u8 0,.string { data:=#[] },.slice none 0 0] 115)
 have HQW:=hd0 (RS.out.lt)
 obtain⟨q,hq⟩:∃ k,w0.heap.size=k:=⟨_,rfl⟩
 obtain⟨w1,hw1⟩:∃ k,w0.alloc (.cells #[.int .u8 r.lv,.int .u8 4,.int .u8 0,.string { data:=#[] },.slice none 0 0] 115)=k:=⟨_,rfl⟩
 have pq1:PB 115 w1 q r.lv 4 0 [] (.slice none 0 0):=by rw[←hw1,← hq];exact pq
 rw[hw1] at aa ⊢
 rw[hq]
 rw[hq] at HQW
 have RS:=hd0 (RS.out.later aa)
 have PQ:=hd0 pq1
 clear pq aa pq1 hw1 hq c0
 obtain⟨J,hJ⟩:∃ J:Int,(if r.st=true then(64:Int) else 0)=J:=⟨_,rfl⟩
 have HJ:=hd0 hJ
 clear hJ
 go_upto_region 5 with fail
 have k3:w1.cell? ⟨w.heap.size,3,none⟩=some (.bool r.st):=RS.out.g.c 3 _ (by rw[HA.out];rfl)
 have k2:=PQ.out.c2
 have r2:=PQ.out.fr 2
 go_upto_if 14 with fail
 go_cut [4] (fun s4 wx=>s4=.pointer (some ⟨q,0,none⟩)∧Hid (PB 115 wx q r.lv 4 J [] (.slice none 0 0))∧Hid (RT w wx A))
 case first =>
  cases hst:r.st with
  | true =>
   have hj:J=64:=by rw[←HJ.out,hst];rfl
   rw[hst] at k3
   go_wp2_with fail
   go_meet
   exact⟨rfl,hd0 (by rw[hj];exact PQ.out.set2N 64),hd0 (RS.out.set HQW.out _)⟩
  | false =>
   have hj:J=0:=by rw[←HJ.out,hst];rfl
   rw[hst] at k3
   go_wp2_with fail
   go_meet
   exact⟨rfl,hd0 (by rw[hj];exact PQ.out),RS⟩
 case rest =>
  clear k3 k2 r2 PQ RS
  obtain⟨rfl,PQ,RS⟩:=hcut
  obtain⟨F,hF⟩:∃ F:Int,flR r=F:=⟨_,rfl⟩
  have HF:=hd0 hF
  obtain⟨Y,hY⟩:∃ Y:UInt8,(if r.en=true then(1:UInt8) else 2)=Y:=⟨_,rfl⟩
  have HY:=hd0 hY
  clear hF hY
  go_upto_region 7 with fail
  have k4:wc.cell? ⟨w.heap.size,4,none⟩=some (.bool r.en):=RS.out.g.c 4 _ (by rw[HA.out];rfl)
  have k2:=PQ.out.c2
  have r2:=PQ.out.fr 2
  go_upto_if 17 with fail
  go_cut [4,5] (fun s4 s5 wx=>s4=.pointer (some ⟨q,0,none⟩)∧s5=.string (bs [Y])∧Hid (PB 115 wx q r.lv 4 F [] (.slice none 0 0))∧Hid (RT w wx A))
  case first =>
   cases hen:r.en with
   | true =>
    have hf:F=J+32:=by rw[←HF.out,← HJ.out];simp[flR,hen]
    have hy:Y=1:=by rw[←HY.out,hen];rfl
    rw[hen] at k4
    have ho:IntKind.u8.wrap (J+32)=J+32:=by rw[←HJ.out];split <;> decide
    go_wp2_with fail
    go_meet
    exact⟨rfl,by rw[hy];rfl,hd0 (by rw[hf];exact PQ.out.set2N (J+32)),hd0 (RS.out.set HQW.out _)⟩
   | false =>
    have hf:F=J:=by rw[←HF.out,← HJ.out];simp[flR,hen]
    have hy:Y=2:=by rw[←HY.out,hen];rfl
    rw[hen] at k4
    go_wp2_with fail
    go_meet
    exact⟨rfl,by rw[hy];rfl,hd0 (by rw[hf];exact PQ.out),RS⟩
  clear k4 k2 r2 PQ RS
  obtain⟨rfl,rfl,PQ,RS⟩:=hcut
  obtain⟨X,hX⟩:∃ X,be 4 r.nm=X:=⟨_,rfl⟩
  obtain⟨T1,hT1⟩:∃ X,[byt r.tl]=X:=⟨_,rfl⟩
  have N1:Hid (∀ w,Calls Tryz.prog 84 #[.int .u64 r.nm,.int .i64 4] w fun en w'=>en=.returned (.string (bs X))∧Below w.heap.size w w'):=fun w=>by
   rw[←hX];exact num_be 4 r.nm w HO.out.nm.1 (by have:=HO.out.nm.2;omega) (by omega)
  have N2:Hid (∀ w,Calls Tryz.prog 84 #[.int .u64 r.tl,.int .i64 1] w fun en w'=>en=.returned (.string (bs T1))∧Below w.heap.size w w'):=fun w=>by
   rw[←hT1,← be_one _ HO.out.tl];exact num_be 1 r.tl w HO.out.tl.1 (by have:=HO.out.tl.2;omega) (by omega)
  have wn:IntKind.u64.wrap r.nm=r.nm:=IntWalk.u64_in _ (by have:=HO.out.nm;omega)
  have wt:IntKind.u64.wrap r.tl=r.tl:=IntWalk.u64_in _ (by have:=HO.out.tl;omega)
  have a1:=run_add_bs X T1 (by rw[←hX,← hT1];simp[be_length])
  have a2:=run_add_bs (X++T1) [Y] (by rw[←hX,← hT1];simp[be_length])
  obtain⟨X1,hX1⟩:∃ Z,X++T1=Z:=⟨_,rfl⟩
  rw[hX1] at a1 a2
  obtain⟨Z,hZ⟩:∃ Z,X1++[Y]=Z:=⟨_,rfl⟩
  rw[hZ] at a2
  obtain⟨YS,hYS⟩:∃ v:ByteArray,bs [Y]=v:=⟨_,rfl⟩
  rw[hYS] at a2 ⊢
  have HZF:=hd0 (show fxR r=Z by rw[←hZ,← hX1,← hX,← hT1,← HY.out];unfold fxR;simp)
  clear hX hT1 hX1 hZ hYS
  go_upto_region 10 with fail
  go_cut [4] (fun s4 wx=>s4=.pointer (some ⟨q,0,none⟩)∧Hid (PB 115 wx q r.lv 4 F Z (.slice none 0 0))∧Hid (RT w wx A))
  case first =>
   have RSd:=hd0 RS.out.drew
   have PQd:PB 115 wc.drew q r.lv 4 F [] (.slice none 0 0):=PQ.out
   have HPQ:=hd0 PQd
   clear PQd
   go_region_held3 (fun W=>W.cell? ⟨w.heap.size,1,none⟩=some (.int .u32 r.nm)∧W.cell? ⟨w.heap.size,2,none⟩=some (.int .u8 r.tl))
    (first|(with_reducible exact RSd.out.two HA.out)|(with_reducible exact RSx.out.two HA.out)|(with_reducible exact RSy.out.two HA.out)|(with_reducible exact(RSy.out.set HQW.out _).two HA.out))
    (first
     |(go_at_call 84;(first
      |((with_reducible refine(N1.out _).mono ?_);rintro en wx ⟨rfl,hbx⟩;have RSx:=hd0 (RSd.out.later hbx);have PQx:=hd0 (HPQ.out.later hbx))
      |((with_reducible refine(N2.out _).mono ?_);rintro en wy ⟨rfl,hby⟩;have RSy:=hd0 (RSx.out.later hby);have PQy:=hd0 (PQx.out.later hby);have m3:=PQy.out.c3;have f3:=PQy.out.fr 3))))
   all_goals go_wp2_with fail
   all_goals go_meet
   all_goals exact⟨rfl,hd0 (PQy.out.set3N Z),hd0 (RSy.out.set HQW.out _)⟩
  clear PQ RS N1 N2 wn wt a1 a2
  obtain⟨rfl,PQ,RS⟩:=hcut
  have HT:Hid (TlR wc (q+1) (.slice none 0 0) []):=hd0 (TlR.none _ _)
  obtain⟨v,hv⟩:∃ v:Value,Value.slice none 0 0=v:=⟨_,rfl⟩
  rw[hv] at PQ HT
  clear hv
  go_upto_region 11 with fail
  have m0:wc.cell? ⟨w.heap.size,5,none⟩=some (.int .u8 r.mi.a):=RS.out.g.c 5 _ (by rw[HA.out];rfl)
  have m1:wc.cell? ⟨w.heap.size,6,none⟩=some (.int .u8 r.mi.b):=RS.out.g.c 6 _ (by rw[HA.out];rfl)
  have m2:wc.cell? ⟨w.heap.size,7,none⟩=some (.int .u8 r.mi.c):=RS.out.g.c 7 _ (by rw[HA.out];rfl)
  have m3:wc.cell? ⟨w.heap.size,8,none⟩=some (.int .u8 r.mi.d):=RS.out.g.c 8 _ (by rw[HA.out];rfl)
  have m4:wc.cell? ⟨w.heap.size,9,none⟩=some (.int .u8 r.mi.e):=RS.out.g.c 9 _ (by rw[HA.out];rfl)
  have m5:wc.cell? ⟨w.heap.size,10,none⟩=some (.int .u8 r.mi.f):=RS.out.g.c 10 _ (by rw[HA.out];rfl)
  obtain⟨D,hD⟩:∃ D:Bool,(!decide (r.mi=mc0))=D:=⟨_,rfl⟩
  have hne:∀ W:World,(binOp .neq 25 (.agg #[.int .u8 r.mi.a,.int .u8 r.mi.b,.int .u8 r.mi.c,.int .u8 r.mi.d,.int .u8 r.mi.e,.int .u8 r.mi.f]) (.agg #[.int .u8 0,.int .u8 0,.int .u8 0,.int .u8 0,.int .u8 0,.int .u8 0])).run Tryz.prog W=.ok (.bool D) W:=fun W=>(neq_macG r.mi mc0 W).trans (by rw[←hD])
  have HD:=hd0 hD
  clear hD
  go_upto_if 37 with fail
  go_cut [4] (fun s4 wx=>s4=.pointer (some ⟨q,0,none⟩)∧Hid (∃ v,PB 115 wx q r.lv 4 F Z v∧TlR wx (q+1) v ([]++prtL 5 r.mi))∧Hid (RT w wx A))
  case first =>
   clear hne
   cases D with
   | false =>
    have h0:r.mi=mc0:=by have h:=HD.out;simpa using h
    have hpr:prtL 5 r.mi=[]:=by unfold prtL;rw[if_pos h0]
    have HPR:=hd0 hpr
    clear h0 hpr
    go_wp2_with fail
    go_meet
    exact⟨rfl,hd0 ⟨v,PQ.out,by rw[HPR.out,List.append_nil];exact HT.out⟩,RS⟩
   | true =>
   have HPR:Hid (prtL 5 r.mi=[(5,1::r.mi.by)]):=hd0 (by unfold prtL;rw[if_neg (show ¬ r.mi=mc0 by have h:=HD.out;simpa using h)])
   go_upto_region 12 with fail
   clear m0 m1 m2 m3 m4 m5
   obtain⟨X,hX⟩:∃ X,1::r.mi.by=X:=⟨_,rfl⟩
   rw[hX] at HPR
   obtain⟨M,hM⟩:∃ M,r.mi.by=M:=⟨_,rfl⟩
   have hadd0:=run_add_bs [1] M (by rw[←hM,Mc.by_len];decide)
   have hadd:∀ W:World,(Op.stringOp .add ({ data:=#[1] } : ByteArray) (bs M)).run Tryz.prog W=.ok (.string (bs X)) W:=by rw[←hX,hM];exact hadd0
   have happ:({ data:=#[1] } : ByteArray)++bs M=bs X:=by rw[←hX,hM];exact bs_append [1] M
   have HM:=hd0 hM
   have hcv:(convert 39 9 (.slice (some ⟨w.heap.size,5,none⟩) 6 6)).run Tryz.prog wc.drew=.ok (.string (bs M)) wc.drew:=by
    have g:=RS.out.drew.g
    have hA2:=HA.out
    rw[←hM]
    exact run_string_src (srcM (g.c 5 _ (by rw[hA2];rfl)) (g.c 6 _ (by rw[hA2];rfl)) (g.c 7 _ (by rw[hA2];rfl)) (g.c 8 _ (by rw[hA2];rfl)) (g.c 9 _ (by rw[hA2];rfl)) (g.c 10 _ (by rw[hA2];rfl)) HO.out.mi)
   clear hX hM hadd0
   have TL:Hid (Tls (wc.drew.alloc (.cells #[.int .u8 5,.string (bs X)] 187)) (.slice (some ⟨wc.heap.size,0,none⟩) 1 1) [(5,X)]):=hd0 (TlR.lit wc.drew 0 (5,X) (Nat.zero_le _)).tls
   have TLb:Hid (Tls (wc.alloc (.cells #[.int .u8 5,.string (bs X)] 187)).drew (.slice (some ⟨wc.heap.size,0,none⟩) 1 1) [(5,X)]):=hd0 ((TlR.lit wc 0 (5,X) (Nat.zero_le _)).tls.later (Below.refl _ _).drew)
   have p4:wc.drew.cell? ⟨q,4,none⟩=some v:=PQ.out.c4
   have aa:=(Below.refl wc.heap.size wc).alloc (Nat.le_refl _) (.cells #[.int .u8 5,.string (bs X)] 187)
   have p4a:(wc.alloc (.cells #[.int .u8 5,.string (bs X)] 187)).drew.cell? ⟨q,4,none⟩=some v:=(PQ.out.later aa).c4
   have p4b:(wc.drew.alloc (.cells #[.int .u8 5,.string (bs X)] 187)).cell? ⟨q,4,none⟩=some v:=(PQ.out.later aa).c4
   have OWa:=hd0 (HT.out.later aa.drew)
   have HQ1:=hd0 (show q+1≤(wc.alloc (.cells #[.int .u8 5,.string (bs X)] 187)).drew.heap.size by have:=PQ.out.lt;have:=aa.size;show q+1≤(wc.alloc _).heap.size;omega)
   have AA:=hd0 aa.drew
   clear aa
   go_region_law (first
    |(refine step_append_R rfl (.tmp 39) (.tmp 45) rfl (q+1) _ ([]) (by rfl) (by exact OWa.out) _ [(5,X)] (by rfl) (by first|exact TL.out|exact TLb.out) (by simp) (by exact HQ1.out) ?_;intro v2 w5 hown2 hb5;obtain⟨a5,k5,hv5,_⟩:=hown2.tls.shape;obtain⟨n5,hn5⟩:∃ n,([]++[(5,X)]:List Th).length=n:=⟨_,rfl⟩;rw[hn5] at hv5;subst hv5;clear hn5;have P5:=hd0 ((PQ.out.later AA.out).below (Nat.lt_succ_self q) hb5);have m4:=P5.out.c4;have f4:=P5.out.fr 4))
   all_goals go_wp2_with fail
   all_goals go_meet
   all_goals exact⟨rfl,hd0 ⟨_,P5.out.setv4G _,by rw[HPR.out];exact hown2.set (Nat.lt_succ_self q) _⟩,hd0 ((RS.out.later AA.out).belowQ HQW.out hb5 _)⟩
  clear m0 m1 m2 m3 m4 m5 PQ HT RS hne HD
  obtain⟨rfl,HV,RS⟩:=hcut
  obtain⟨v,pq,ht⟩:=HV.out
  have PQ:=hd0 pq
  have HT:=hd0 ht
  clear HV pq ht
  go_upto_region 13 with fail
  have m0:wc.cell? ⟨w.heap.size,11,none⟩=some (.int .u8 r.mo.a):=RS.out.g.c 11 _ (by rw[HA.out];rfl)
  have m1:wc.cell? ⟨w.heap.size,12,none⟩=some (.int .u8 r.mo.b):=RS.out.g.c 12 _ (by rw[HA.out];rfl)
  have m2:wc.cell? ⟨w.heap.size,13,none⟩=some (.int .u8 r.mo.c):=RS.out.g.c 13 _ (by rw[HA.out];rfl)
  have m3:wc.cell? ⟨w.heap.size,14,none⟩=some (.int .u8 r.mo.d):=RS.out.g.c 14 _ (by rw[HA.out];rfl)
  have m4:wc.cell? ⟨w.heap.size,15,none⟩=some (.int .u8 r.mo.e):=RS.out.g.c 15 _ (by rw[HA.out];rfl)
  have m5:wc.cell? ⟨w.heap.size,16,none⟩=some (.int .u8 r.mo.f):=RS.out.g.c 16 _ (by rw[HA.out];rfl)
  obtain⟨D,hD⟩:∃ D:Bool,(!decide (r.mo=mc0))=D:=⟨_,rfl⟩
  have hne:∀ W:World,(binOp .neq 25 (.agg #[.int .u8 r.mo.a,.int .u8 r.mo.b,.int .u8 r.mo.c,.int .u8 r.mo.d,.int .u8 r.mo.e,.int .u8 r.mo.f]) (.agg #[.int .u8 0,.int .u8 0,.int .u8 0,.int .u8 0,.int .u8 0,.int .u8 0])).run Tryz.prog W=.ok (.bool D) W:=fun W=>(neq_macG r.mo mc0 W).trans (by rw[←hD])
  have HD:=hd0 hD
  clear hD
  go_upto_if 51 with fail
  go_cut [4] (fun s4 wx=>s4=.pointer (some ⟨q,0,none⟩)∧Hid (∃ v,PB 115 wx q r.lv 4 F Z v∧TlR wx (q+1) v ([]++prtL 5 r.mi++prtL 6 r.mo))∧Hid (RT w wx A))
  case first =>
   clear hne
   cases D with
   | false =>
    have h0:r.mo=mc0:=by have h:=HD.out;simpa using h
    have hpr:prtL 6 r.mo=[]:=by unfold prtL;rw[if_pos h0]
    have HPR:=hd0 hpr
    clear h0 hpr
    go_wp2_with fail
    go_meet
    exact⟨rfl,hd0 ⟨v,PQ.out,by rw[HPR.out,List.append_nil];exact HT.out⟩,RS⟩
   | true =>
   have HPR:Hid (prtL 6 r.mo=[(6,1::r.mo.by)]):=hd0 (by unfold prtL;rw[if_neg (show ¬ r.mo=mc0 by have h:=HD.out;simpa using h)])
   go_upto_region 14 with fail
   clear m0 m1 m2 m3 m4 m5
   obtain⟨X,hX⟩:∃ X,1::r.mo.by=X:=⟨_,rfl⟩
   rw[hX] at HPR
   obtain⟨M,hM⟩:∃ M,r.mo.by=M:=⟨_,rfl⟩
   have hadd0:=run_add_bs [1] M (by rw[←hM,Mc.by_len];decide)
   have hadd:∀ W:World,(Op.stringOp .add ({ data:=#[1] } : ByteArray) (bs M)).run Tryz.prog W=.ok (.string (bs X)) W:=by rw[←hX,hM];exact hadd0
   have happ:({ data:=#[1] } : ByteArray)++bs M=bs X:=by rw[←hX,hM];exact bs_append [1] M
   have HM:=hd0 hM
   have hcv:(convert 39 9 (.slice (some ⟨w.heap.size,11,none⟩) 6 6)).run Tryz.prog wc.drew=.ok (.string (bs M)) wc.drew:=by
    have g:=RS.out.drew.g
    have hA2:=HA.out
    rw[←hM]
    exact run_string_src (srcM (g.c 11 _ (by rw[hA2];rfl)) (g.c 12 _ (by rw[hA2];rfl)) (g.c 13 _ (by rw[hA2];rfl)) (g.c 14 _ (by rw[hA2];rfl)) (g.c 15 _ (by rw[hA2];rfl)) (g.c 16 _ (by rw[hA2];rfl)) HO.out.mo)
   clear hX hM hadd0
   have TL:Hid (Tls (wc.drew.alloc (.cells #[.int .u8 6,.string (bs X)] 187)) (.slice (some ⟨wc.heap.size,0,none⟩) 1 1) [(6,X)]):=hd0 (TlR.lit wc.drew 0 (6,X) (Nat.zero_le _)).tls
   have TLb:Hid (Tls (wc.alloc (.cells #[.int .u8 6,.string (bs X)] 187)).drew (.slice (some ⟨wc.heap.size,0,none⟩) 1 1) [(6,X)]):=hd0 ((TlR.lit wc 0 (6,X) (Nat.zero_le _)).tls.later (Below.refl _ _).drew)
   have p4:wc.drew.cell? ⟨q,4,none⟩=some v:=PQ.out.c4
   have aa:=(Below.refl wc.heap.size wc).alloc (Nat.le_refl _) (.cells #[.int .u8 6,.string (bs X)] 187)
   have p4a:(wc.alloc (.cells #[.int .u8 6,.string (bs X)] 187)).drew.cell? ⟨q,4,none⟩=some v:=(PQ.out.later aa).c4
   have p4b:(wc.drew.alloc (.cells #[.int .u8 6,.string (bs X)] 187)).cell? ⟨q,4,none⟩=some v:=(PQ.out.later aa).c4
   have OWa:=hd0 (HT.out.later aa.drew)
   have HQ1:=hd0 (show q+1≤(wc.alloc (.cells #[.int .u8 6,.string (bs X)] 187)).drew.heap.size by have:=PQ.out.lt;have:=aa.size;show q+1≤(wc.alloc _).heap.size;omega)
   have AA:=hd0 aa.drew
   clear aa
   go_region_law (first
    |(refine step_append_R rfl (.tmp 53) (.tmp 59) rfl (q+1) _ ([]++prtL 5 r.mi) (by rfl) (by exact OWa.out) _ [(6,X)] (by rfl) (by first|exact TL.out|exact TLb.out) (by have h:=prtL_len 5 r.mi;simp;omega) (by exact HQ1.out) ?_;intro v2 w5 hown2 hb5;obtain⟨a5,k5,hv5,_⟩:=hown2.tls.shape;obtain⟨n5,hn5⟩:∃ n,([]++prtL 5 r.mi++[(6,X)]:List Th).length=n:=⟨_,rfl⟩;rw[hn5] at hv5;subst hv5;clear hn5;have P5:=hd0 ((PQ.out.later AA.out).below (Nat.lt_succ_self q) hb5);have m4:=P5.out.c4;have f4:=P5.out.fr 4))
   all_goals go_wp2_with fail
   all_goals go_meet
   all_goals exact⟨rfl,hd0 ⟨_,P5.out.setv4G _,by rw[HPR.out];exact hown2.set (Nat.lt_succ_self q) _⟩,hd0 ((RS.out.later AA.out).belowQ HQW.out hb5 _)⟩
  clear m0 m1 m2 m3 m4 m5 PQ HT RS hne HD
  obtain⟨rfl,HV,RS⟩:=hcut
  obtain⟨v,pq,ht⟩:=HV.out
  have PQ:=hd0 pq
  have HT:=hd0 ht
  clear HV pq ht
  obtain⟨s2,c2,hv2,_⟩:=HT.out.tls.shape
  obtain⟨n2,hn2⟩:∃ n,([]++prtL 5 r.mi++prtL 6 r.mo:List Th).length=n:=⟨_,rfl⟩
  rw[hn2] at hv2
  subst hv2
  have k0:=PQ.out.c0
  have k1:=PQ.out.c1
  have k2:=PQ.out.c2
  have k3:=PQ.out.c3
  have k4:=PQ.out.c4
  have z0:=RS.out.z.c0
  have z1:=RS.out.z.c1
  have z2:=RS.out.z.c2
  have z3:=RS.out.z.c3
  have z4:=RS.out.z.c4
  have y0:=RS.out.z.fr 0
  have y1:=RS.out.z.fr 1
  have y2:=RS.out.z.fr 2
  have y3:=RS.out.z.fr 3
  have y4:=RS.out.z.fr 4
  clear hn2 PQ
  go_wp2_with fail
  refine bodyPost_ret (v:=.tuple #[.agg #[.int .u8 r.lv,.int .u8 4,.int .u8 F,.string (bs Z),.slice s2 n2 c2],.int .i64 0]) (by simp[results,Tryz.results60,go_sem,z0,z1,z2,z3,z4]) rfl ⟨_,by rw[HRR.out,HF.out,HZF.out],by rw[HRR.out];exact((((((HT.out.set (by have:=HQW.out;omega) _).set (by have:=HQW.out;omega) _).set (by have:=HQW.out;omega) _).set (by have:=HQW.out;omega) _).set (by have:=HQW.out;omega) _).mono (by have:=HQW.out;omega)),below_set (below_set (below_set (below_set (below_set RS.out.bel (by omega) _) (by omega) _) (by omega) _) (by omega) _) (by omega) _⟩
structure TKr (w W:World)(o:Ow20)(v:Rv)(r:Rf)(sr ds:Mc):Prop where
 gb:GB 44 W w.heap.size (rfA o v r)
 g5:GB 25 W (w.heap.size+1) #[.int .u8 sr.a,.int .u8 sr.b,.int .u8 sr.c,.int .u8 sr.d,.int .u8 sr.e,.int .u8 sr.f]
 g6:GB 25 W (w.heap.size+2) #[.int .u8 ds.a,.int .u8 ds.b,.int .u8 ds.c,.int .u8 ds.d,.int .u8 ds.e,.int .u8 ds.f]
 gz:GB 44 W (w.heap.size+3) rzA
 bel:Below w.heap.size w W
section
variable {w W W':World} {o:Ow20} {v:Rv} {r:Rf} {sr ds:Mc}
theorem TKr.begin (w:World)(o:Ow20)(v:Rv)(r:Rf)(sr ds:Mc):TKr w ((((w.alloc (.cells (rfA o v r) 44)).alloc (.cells #[.int .u8 sr.a,.int .u8 sr.b,.int .u8 sr.c,.int .u8 sr.d,.int .u8 sr.e,.int .u8 sr.f] 25)).alloc (.cells #[.int .u8 ds.a,.int .u8 ds.b,.int .u8 ds.c,.int .u8 ds.d,.int .u8 ds.e,.int .u8 ds.f] 25)).alloc (.cells yP 44)) o v r sr ds:=by
 have h5:=GB.new 25 (w.alloc (.cells (rfA o v r) 44)) #[.int .u8 sr.a,.int .u8 sr.b,.int .u8 sr.c,.int .u8 sr.d,.int .u8 sr.e,.int .u8 sr.f]
 have h6:=GB.new 25 ((w.alloc (.cells (rfA o v r) 44)).alloc (.cells #[.int .u8 sr.a,.int .u8 sr.b,.int .u8 sr.c,.int .u8 sr.d,.int .u8 sr.e,.int .u8 sr.f] 25)) #[.int .u8 ds.a,.int .u8 ds.b,.int .u8 ds.c,.int .u8 ds.d,.int .u8 ds.e,.int .u8 ds.f]
 have h8:=GB.new 44 (((w.alloc (.cells (rfA o v r) 44)).alloc (.cells #[.int .u8 sr.a,.int .u8 sr.b,.int .u8 sr.c,.int .u8 sr.d,.int .u8 sr.e,.int .u8 sr.f] 25)).alloc (.cells #[.int .u8 ds.a,.int .u8 ds.b,.int .u8 ds.c,.int .u8 ds.d,.int .u8 ds.e,.int .u8 ds.f] 25)) #[.int .u8 0,.int .u8 0,.string { data:=#[] },.int .u16 0,.slice none 0 0,.int .u8 0,.int .u8 0,.int .u8 0,.int .u8 0,.int .u8 0,.int .u8 0,.int .u8 0,.slice none 0 0,.int .i64 0,.slice none 0 0,.int .u64 0,.int .u32 0,.string { data:=#[] },.int .i64 0,.int .i64 0,.int .u32 0,.slice none 0 0]
 rw[show(w.alloc (.cells (rfA o v r) 44)).heap.size=w.heap.size+1 by simp] at h5
 rw[show((w.alloc (.cells (rfA o v r) 44)).alloc (.cells #[.int .u8 sr.a,.int .u8 sr.b,.int .u8 sr.c,.int .u8 sr.d,.int .u8 sr.e,.int .u8 sr.f] 25)).heap.size=w.heap.size+2 by simp] at h6
 rw[show(((w.alloc (.cells (rfA o v r) 44)).alloc (.cells #[.int .u8 sr.a,.int .u8 sr.b,.int .u8 sr.c,.int .u8 sr.d,.int .u8 sr.e,.int .u8 sr.f] 25)).alloc (.cells #[.int .u8 ds.a,.int .u8 ds.b,.int .u8 ds.c,.int .u8 ds.d,.int .u8 ds.e,.int .u8 ds.f] 25)).heap.size=w.heap.size+3 by simp] at h8
 exact⟨(((GB.new 44 w (rfA o v r)).later (bA _)).later (bA _)).later (bA _),
  (h5.later (bA _)).later (bA _),h6.later (bA _),h8,
  (((bA _).alloc (by simp) _).alloc (by simp;omega) _).alloc (by simp;omega) _⟩
theorem TKr.low (h:TKr w W o v r sr ds)(hb:Below (w.heap.size+4) W W'):TKr w W' o v r sr ds:=⟨h.gb.below (by omega) hb,h.g5.below (by omega) hb,h.g6.below (by omega) hb,h.gz.below (by omega) hb,h.bel.trans (hb.mono (by omega))⟩
theorem TKr.sz (h:TKr w W o v r sr ds):w.heap.size+4≤W.heap.size:=h.gz.lt
theorem TKr.later (h:TKr w W o v r sr ds)(hb:Below W.heap.size W W'):TKr w W' o v r sr ds:=h.low (hb.mono h.sz)
theorem TKr.drew (h:TKr w W o v r sr ds):TKr w W.drew o v r sr ds:=h.later (Below.refl _ _).drew
theorem TKr.set (h:TKr w W o v r sr ds)(j:Nat)(x:Value){v':Rv}{r':Rf}(e:(rfA o v r).setIfInBounds j x=rfA o v' r'):TKr w (W.setCell ⟨w.heap.size,j,none⟩ x) o v' r' sr ds :=
 ⟨by rw[←e];exact h.gb.set j x,h.g5.other (by omega) x,h.g6.other (by omega) x,h.gz.other (by omega) x,below_set h.bel (Nat.le_refl _) x⟩
theorem TKr.setHi (h:TKr w W o v r sr ds){q:Nat}(hq:w.heap.size+4≤q)(j:Nat)(x:Value):TKr w (W.setCell ⟨q,j,none⟩ x) o v r sr ds :=
 ⟨h.gb.other (by omega) x,h.g5.other (by omega) x,h.g6.other (by omega) x,h.gz.other (by omega) x,below_set h.bel (by show w.heap.size≤q;omega) x⟩
theorem TKr.rng (h:TKr w W o v r sr ds):W.rangeAt w.heap.size 0 (rfA o v r).toList:=h.gb.range
theorem TKr.thr (h:TKr w W o v r sr ds):W.there (w.heap.size+3) 0 (rfA o v r).size:=h.gz.there (Nat.le_refl _)
theorem TKr.fin (h:TKr w W o v r sr ds)(h1:(rfA o v r).all (·.oneCell')=true):GB 44 (W.setCells (w.heap.size+3) 0 (rfA o v r).toList) (w.heap.size+3) (rfA o v r):=h.gz.store rfl h1
theorem TKr.c (h:TKr w W o v r sr ds)(j:Nat)(x:Value)(hx:(rfA o v r)[j]?=some x):W.cell? ⟨w.heap.size,j,none⟩=some x:=h.gb.c j x hx
end
structure Rk (r:Rf):Prop where
 ok:r.Ok
 bad:r.bad≤900
 rep:r.rep≤900
 ali:r.ali≤900
 hd:r.hd.length≤900
 wy:r.way.length≤900
structure VN (N:Nat)(W:World)(v v':Rv)(r r':Rf):Prop where
 ov:v'.ov=v.ov
 sv:v'.sv=v.sv
 ws:r'.ws=r.ws
 nw:r'.nw=r.nw
 hd:(v'.hv=v.hv∧r'.hd=r.hd)∨Ow 7 hdC 147 W N v'.hv r'.hd
 wy:(v'.yv=v.yv∧r'.way=r.way)∨Ow 17 rqC 153 W N v'.yv r'.way
section
variable {N:Nat} {W W' w0:World} {v v':Rv} {r r':Rf} {ks:List Int}
theorem VN.refl (N:Nat)(W:World)(v:Rv)(r:Rf):VN N W v v r r:=⟨rfl,rfl,rfl,rfl,.inl ⟨rfl,rfl⟩,.inl ⟨rfl,rfl⟩⟩
theorem VN.set (h:VN N W v v' r r'){t:Nat}(ht:t<N)(j:Nat)(u:Value):VN N (W.setCell ⟨t,j,none⟩ u) v v' r r':=⟨h.ov,h.sv,h.ws,h.nw,h.hd.imp id fun x=>x.setLow ht u,h.wy.imp id fun x=>x.setLow ht u⟩
theorem VN.cells (h:VN N W v v' r r'){t:Nat}(ht:t<N)(vs:List Value)(o:Nat):VN N (W.setCells t o vs) v v' r r':=⟨h.ov,h.sv,h.ws,h.nw,h.hd.imp id fun x=>x.cellsLow ht vs o,h.wy.imp id fun x=>x.cellsLow ht vs o⟩
theorem VN.wk (h:VN N W v v' r r'){M:Nat}(hm:M≤N):VN M W v v' r r':=⟨h.ov,h.sv,h.ws,h.nw,h.hd.imp id fun x=>x.wk hm,h.wy.imp id fun x=>x.wk hm⟩
theorem VN.one (h:VN N W v v' r r')(hx:RX w0 ks v r)(o:Ow20)(r'':Rf):(rfA o v' r'').all (·.oneCell')=true:=by
 refine rfA_one o v' r'' (by rw[h.ov];exact hx.ks.oneC) ?_ (by rw[h.sv];exact hx.ws.oneC) ?_
 ·rcases h.hd with⟨e,-⟩|h
  ·rw[e];exact hx.hd.oneC
  ·exact(h.rw hdC_len).oneC
 ·rcases h.wy with⟨e,-⟩|h
  ·rw[e];exact hx.wy.oneC
  ·exact(h.rw rqC_len).oneC
end
theorem hdC_one (x:Hd):∀ u∈hdC x,u.oneCell'=true:=by
 intro u hu
 unfold hdC ckC at hu
 simp only[List.mem_cons,List.not_mem_nil,or_false] at hu
 rcases hu with rfl|rfl|rfl|rfl|rfl|rfl|rfl <;> rfl
theorem info_hd:(Tryz.prog.info? 147).map (fun i=>(i.zero,i.size,i.bytes))=some (some (.agg #[.int .i64 0,.int .u8 0,.bool false,.int .u8 0,.int .u32 0,.int .u16 0,.string { data:=#[] }]),7,40):=by kernel_rfl
theorem rfA_bad (o:Ow20)(v:Rv)(r:Rf)(x:Int):(rfA o v r).setIfInBounds 15 (.int .u64 x)=rfA o v { r with bad:=x }:=rfl
theorem rfA_hd (o:Ow20)(v:Rv)(r:Rf)(s:Value)(l:List Hd):(rfA o v r).setIfInBounds 12 s=rfA o { v with hv:=s } { r with hd:=l }:=rfl
theorem rfA_way (o:Ow20)(v:Rv)(r:Rf)(s:Value)(l:List Rp):(rfA o v r).setIfInBounds 21 s=rfA o { v with yv:=s } { r with way:=l }:=rfl
theorem rfA_rep (o:Ow20)(v:Rv)(r:Rf)(x:Int):(rfA o v r).setIfInBounds 18 (.int .i64 x)=rfA o v { r with rep:=x }:=rfl
theorem rfA_ali (o:Ow20)(v:Rv)(r:Rf)(x:Int):(rfA o v r).setIfInBounds 19 (.int .i64 x)=rfA o v { r with ali:=x }:=rfl
theorem Rw.below1 {α:Type}{k:Nat}{f:α→List Value}{w w':World}{v:Value}{l:List α}{C:Nat}(hf:∀ x,(f x).length=k)(h:Rw k f w v l)(hc:∀ g,v.ownBlock=some g→g<C)(hb:Below C w w'):Rw k f w' v l:=by
 rcases h with h|⟨ad,c,h1,h0|⟨b,off,h3,h2⟩⟩
 ·exact .inl h
 ·exact .inr ⟨ad,c,h1,.inl h0⟩
 ·refine .inr ⟨ad,c,h1,.inr ⟨b,off,h3,fun j hj i hi=>?_⟩⟩
  have h4:=h2 j hj i hi
  rw[List.getElem?_eq_getElem (by rw[hf];exact hi)] at h4 ⊢
  exact(hb.cell (hc b (by rw[h1,h3];rfl))).trans h4
theorem op20_bad (o:Ow20)(r:Rf)(sr ds:Mc)(a b c:Int)(f:List UInt8)(l:List Th):(op20 o r sr ds a b c f l).1.bad=r.bad:=by
 unfold op20 ck20 lr20 fd20
 repeat' (first|rfl|split)
end Go.Proofs.YtlkdfofpnmpidaaGreat
