/- ZQ05 -/
import Derived.Test.YtlkdfofpnmpidaaGreatZQ04
import Derived.StillTailTactics
import Derived.WalkMore
set_option linter.unusedVariables false
set_option linter.unusedSimpArgs false
set_option maxRecDepth 100000
set_option maxHeartbeats 16000000
namespace Go.Proofs.YtlkdfofpnmpidaaGreat
open Go.RowKit
theorem refPut11_any (v:Value)(l:List Th)(w:World)(hv:Tls w v l)(hl:l.length≤100000)(hs:∀ x∈l,x.2.length≤maxLen):Calls Tryz.prog 117 #[v] w fun en w'=>en=.returned (.tuple #[.string (bs (putT l).1),.int .i64 (putT l).2])∧Below w.heap.size w w':=by
 obtain⟨a,c,rfl,hc⟩:=hv.shape
 have HC:=hd0 hc
 have HS:=hd0 hs
 clear hc hv hs
 obtain⟨R,hR⟩:∃ R,putT l=R:=⟨_,rfl⟩
 have HR:=hd0 hR
 rw[hR];clear hR
 go_enter Tryz.func117,Tryz.ntmps117
 go_wp2_with fail
 go_loopw [4,5] (fun s i wr=>∃ j:Nat,j≤l.length∧i=.int .i64 j∧(∀ x∈l.take j,okT x=0)∧s=.string (bs ((l.take j).flatMap thB))∧Below w.heap.size w wr) (fun _ i _=>l.length-(intOf i).toNat)
 case atStart=>exact⟨0,by omega,rfl,by simp,rfl,Below.refl _ _⟩
 case round =>
  obtain⟨j,hj,rfl,hno,rfl,hb⟩:=hrel
  have hacc:=thBs_len _ hno
  have HN:=hd0 hno;clear hno
  by_cases hlt:j<l.length
  ·have dk:decide ((j:Int)<(l.length:Int))=true:=decide_eq_true (by omega)
   obtain⟨b,off,rfl,hcc⟩:=HC.out.resolve_left (by intro h;rw[h] at hlt;simp at hlt)
   have c0:=(hb.cell (World.block_lt_of_cell? w _ (hcc j hlt).1)).trans (hcc j hlt).1
   have c1:=(hb.cell (World.block_lt_of_cell? w _ (hcc j hlt).2)).trans (hcc j hlt).2
   have hnext:l.take (j+1)=l.take j++[l[j]]:=List.take_succ_eq_append_getElem hlt
   have hxl:=HS.out l[j] (List.getElem_mem hlt)
   have hfa:=putT_at l j hlt HN.out
   have hal:((l.take j).flatMap thB).length≤148300000:=by
    have:(l.take j).length≤100000:=by simp;omega
    omega
   obtain⟨A,hA⟩:∃ A,(l.take j).flatMap thB=A:=⟨_,rfl⟩
   rw[hA] at hal ⊢
   obtain⟨x,hx⟩:∃ x,l[j]=x:=⟨_,rfl⟩
   rw[hx] at c0 c1 hnext hfa hxl
   unfold maxLen at hxl
   have hsx:=bs_size x.2
   have hA2:(l.take (j+1)).flatMap thB=A++x.1::(be 2 (x.2.length:Int)++x.2):=by
    rw[hnext,List.flatMap_append,hA];simp[thB]
   obtain⟨x0,hx0⟩:∃ x0,(x.1.toNat:Int)=x0:=⟨_,rfl⟩
   rw[hx0] at c0
   have hx01:0≤x0∧x0<256:=by have:=x.1.toNat_lt;omega
   have hx1:UInt8.ofNat x0.toNat=x.1:=by apply UInt8.toNat_inj.1;simp;omega
   have HNX:=hd0 hnext
   have HF:=hd0 hfa
   have HA2:=hd0 hA2
   have HX1:=hd0 hx1
   have HX0:=hd0 hx0
   have HB:=hd0 hb
   clear hcc hx HC hnext hfa hx0 hx1 hb hacc hA hA2
   by_cases h0:x0=0
   ·have d0:(x0==0)=true:=by simpa using h0
    have hok:okT x=2:=by
     unfold okT;rw[if_pos (by rw[←HX1.out,h0];rfl)]
    have hRR:=HR.out.symm.trans (HF.out (by rw[hok];decide))
    rw[hok] at hRR
    have HRR:=hd0 hRR
    clear h0 hok hRR
    go_wp2
    refine bodyPost_ret (v:=.tuple #[.string (bs []),.int .i64 2]) (by simp[results,Tryz.results117,go_sem];rfl) rfl ⟨by rw[HRR.out],HB.out⟩
   have d0:(x0==0)=false:=by simpa using h0
   have hne:x.1≠0:=fun h=>h0 (by rw[←HX0.out,h];rfl)
   by_cases h1:1480<x.2.length
   ·have d1:decide ((1480:Int)<(x.2.length:Int))=true:=decide_eq_true (by omega)
    have hok:okT x=5:=by unfold okT;rw[if_neg hne,if_pos h1]
    have hRR:=HR.out.symm.trans (HF.out (by rw[hok];decide))
    rw[hok] at hRR
    have HRR:=hd0 hRR
    clear h0 h1 hok hRR hne
    go_wp2
    refine bodyPost_ret (v:=.tuple #[.string (bs []),.int .i64 5]) (by simp[results,Tryz.results117,go_sem];rfl) rfl ⟨by rw[HRR.out],HB.out⟩
   have d1:decide ((1480:Int)<(x.2.length:Int))=false:=decide_eq_false (by omega)
   have hok:okT x=0:=by unfold okT;rw[if_neg hne,if_neg h1]
   have HOK:=hd0 hok
   obtain⟨X2,hX2⟩:∃ X2,x.2=X2:=⟨_,rfl⟩
   have HX2:=hd0 hX2
   rw[hX2] at c1 hsx hxl d1
   have h1480:X2.length≤1480:=by rw[←hX2];omega
   have l0:=Later.cell c0
   have l1:=Later.cell c1
   have wx:IntKind.u64.wrap x0=x0:=IntWalk.u64_in _ (by omega)
   have wy:IntKind.u64.wrap (X2.length:Int)=(X2.length:Int):=IntWalk.u64_in _ (by omega)
   have hbe1:be 1 x0=[x.1]:=by rw[←HX1.out];simp[be,beB,List.range_succ,show x0 % 256=x0 by omega]
   have P1:Hid (∀ w,Calls Tryz.prog 84 #[.int .u64 x0,.int .i64 1] w fun en w'=>en=.returned (.string (bs [x.1]))∧Below w.heap.size w w'):=by
    rw[←hbe1];exact fun w=>num_be 1 x0 w hx01.1 (by omega) (by omega)
   have P2:Hid (∀ w,Calls Tryz.prog 84 #[.int .u64 (X2.length:Int),.int .i64 2] w fun en w'=>en=.returned (.string (bs (be 2 (X2.length:Int))))∧Below w.heap.size w w'):=fun w=>num_be 2 (X2.length:Int) w (by omega) (by omega) (by omega)
   have a1:=run_add_bs A [x.1] (by simp;omega)
   have a2:=run_add_bs (A++[x.1]) (be 2 (X2.length:Int)) (by simp[be2_len];omega)
   have a3:=run_add_bs (A++[x.1]++be 2 (X2.length:Int)) X2 (by simp[be2_len];omega)
   simp only[List.append_assoc,List.cons_append,List.nil_append] at a2 a3
   clear h0 h1 hok hne hX2 hbe1
   go_wp2_with fail
   refine wp_region_later (by kernel_rfl) (by kernel_rfl) ?_
   repeat (go_big_quiet_step (first|(go_at_call 84;first|(with_reducible exact Calls.later (P1.out _))|(with_reducible exact Calls.later (P2.out _)))))
   refine wpQuiet_nil ?_
   rintro _ ⟨K,rfl⟩
   go_wp2
   exact⟨⟨j+1,by omega,by go_num,fun y hy=>by
     rw[HNX.out,List.mem_append] at hy
     rcases hy with hy|hy
     ·exact HN.out y hy
     ·simp at hy;subst hy;exact HOK.out,by rw[HA2.out,HX2.out],Later.bel HB.out K⟩,by simp[intOf];omega⟩
  ·have dk:decide ((j:Int)<(l.length:Int))=false:=decide_eq_false (by omega)
   have hall:l.take j=l:=List.take_of_length_le (by omega)
   have hRR:=HR.out.symm.trans (putT_all l (by have h:=HN.out;rw[hall] at h;exact h))
   rw[hall] at hacc ⊢
   obtain⟨A,hA⟩:∃ A,l.flatMap thB=A:=⟨_,rfl⟩
   rw[hA] at hacc hRR ⊢
   have a4:∀ W:World,(Op.stringOp .add (bs A) ({ data:=#[0] } : ByteArray)).run Tryz.prog W=.ok (.string (bs (A++[0]))) W:=run_add_bs A [0] (by simp;omega)
   have HRR:=hd0 hRR
   have HB:=hd0 hb
   clear hall hA hRR hacc HN hb
   go_wp2
   refine bodyPost_ret (v:=.tuple #[.string (bs (A++[0])),.int .i64 0]) (by simp[results,Tryz.results117,go_sem]) rfl ⟨by rw[HRR.out],HB.out⟩
def byt (a:Int):UInt8:=UInt8.ofNat a.toNat
theorem byt_nat (a:Int)(h:0≤a∧a<256):((byt a).toNat:Int)=a:=by
 unfold byt;simp;omega
theorem byteV_byt (a:Int)(h:0≤a∧a<256):byteV (byt a)=.int .u8 a:=by unfold byteV;rw[byt_nat a h]
theorem src4 (W:World)(T:TypeId)(x y z t:Int)(hx:0≤x∧x<256)(hy:0≤y∧y<256)(hz:0≤z∧z<256)(ht:0≤t∧t<256):Src (W.alloc (.cells #[.int .u8 x,.int .u8 y,.int .u8 z,.int .u8 t] T)) (.slice (some ⟨W.heap.size,0,none⟩) 4 4) [byt x,byt y,byt z,byt t]:=by
 refine .inr ⟨⟨W.heap.size,0,none⟩,4,rfl,fun j hj=>?_⟩
 rw[Go.WideShapes.add_plain]
 have hh:(W.alloc (.cells #[.int .u8 x,.int .u8 y,.int .u8 z,.int .u8 t] T)).heap[W.heap.size]?=some (.cells #[.int .u8 x,.int .u8 y,.int .u8 z,.int .u8 t] T):=heap_alloc_new W _
 generalize W.alloc (.cells #[.int .u8 x,.int .u8 y,.int .u8 z,.int .u8 t] T)=X at hh
 have:j=0∨j=1∨j=2∨j=3:=by have:j<4:=hj;omega
 rcases this with rfl|rfl|rfl|rfl
 ·simp[World.cell?,hh,byteV_byt _ hx]
 ·simp[World.cell?,hh,byteV_byt _ hy]
 ·simp[World.cell?,hh,byteV_byt _ hz]
 ·simp[World.cell?,hh,byteV_byt _ ht]
def hdP (a b c:Int)(f:List UInt8):List UInt8:=[byt (a*32),byt b,byt c,byt (f.length:Int)]
def putP (a b c:Int)(f:List UInt8)(l:List Th):List UInt8 × Int :=
 if 7<a then([],2) else if 255<f.length then([],5) else if (putT l).2=0 then(hdP a b c f++f++(putT l).1,0) else([],(putT l).2)
theorem wrong_any (t:Bool)(x:Int)(w:World):Calls Tryz.prog 88 #[.bool t,.int .i64 x] w fun en w'=>en=.returned (.int .i64 (if t=true then x else 0))∧w'=w:=by
 cases t with
 | true =>
  go_enter Tryz.func88,Tryz.ntmps88
  go_wp2
  go_ret
  exact⟨rfl,rfl⟩
 | false =>
  go_enter Tryz.func88,Tryz.ntmps88
  go_wp2
  go_ret
  exact⟨rfl,rfl⟩
def fst3 (x y z:Int):Int:=if x≠0 then x else if y≠0 then y else z
theorem first3_any (q:Nat)(x y z:Int)(w:World)(c0:w.cell? ⟨q,0,none⟩=some (.int .i64 x))(c1:w.cell? ⟨q,1,none⟩=some (.int .i64 y))(c2:w.cell? ⟨q,2,none⟩=some (.int .i64 z)):Calls Tryz.prog 87 #[.slice (some ⟨q,0,none⟩) 3 3] w fun en w'=>en=.returned (.int .i64 (fst3 x y z))∧w=w':=by
 unfold fst3
 go_enter Tryz.func87,Tryz.ntmps87
 go_wp2_with fail
 refine wp_loop_rounds 4 ?_
 rw[rounds_succ]
 by_cases hx:x=0
 ·subst hx
  go_wp2_with fail
  rw[rounds_succ]
  by_cases hy:y=0
  ·subst hy
   go_wp2_with fail
   rw[rounds_succ]
   by_cases hz:z=0
   ·subst hz
    go_wp2_with fail
    rw[rounds_succ]
    go_wp2_with fail
    go_ret
    exact⟨rfl,rfl⟩
   ·have dz:(z != 0)=true:=by rw[bne_iff_ne];exact hz
    clear hz
    go_wp2_with fail
    go_ret
    exact⟨rfl,rfl⟩
  ·have dy:(y != 0)=true:=by rw[bne_iff_ne];exact hy
   have H:=hd0 hy
   clear hy
   go_wp2_with fail
   go_ret
   exact⟨rfl,rfl⟩
 ·have dx:(x != 0)=true:=by rw[bne_iff_ne];exact hx
  have H:=hd0 hx
  clear hx
  go_wp2_with fail
  go_ret
  exact⟨rfl,rfl⟩
theorem first2_any (q:Nat)(x y:Int)(w:World)(c0:w.cell? ⟨q,0,none⟩=some (.int .i64 x))(c1:w.cell? ⟨q,1,none⟩=some (.int .i64 y)):Calls Tryz.prog 87 #[.slice (some ⟨q,0,none⟩) 2 2] w fun en w'=>en=.returned (.int .i64 (if x≠0 then x else y))∧w=w':=by
 go_enter Tryz.func87,Tryz.ntmps87
 go_wp2_with fail
 refine wp_loop_rounds 3 ?_
 rw[rounds_succ]
 by_cases hx:x=0
 ·subst hx
  go_wp2_with fail
  rw[rounds_succ]
  by_cases hy:y=0
  ·subst hy
   go_wp2_with fail
   rw[rounds_succ]
   go_wp2_with fail
   go_ret
   exact⟨rfl,rfl⟩
  ·have dy:(y != 0)=true:=by rw[bne_iff_ne];exact hy
   clear hy
   go_wp2_with fail
   go_ret
   exact⟨rfl,rfl⟩
 ·have dx:(x != 0)=true:=by rw[bne_iff_ne];exact hx
  have H:=hd0 hx
  clear hx
  go_wp2_with fail
  go_ret
  exact⟨rfl,rfl⟩
theorem cput_any (v:Value)(a b c:Int)(f:List UInt8)(l:List Th)(w:World)(hv:Tls w v l)(hl:l.length≤100000)(hs:∀ x∈l,x.2.length≤maxLen)(hf:f.length≤1000000)(hm:(putT l).1.length≤1000000000)(ha:0≤a∧a<256)(hb:0≤b∧b<256)(hc:0≤c∧c<256) :
  Calls Tryz.prog 48 #[.agg #[.int .u8 a,.int .u8 b,.int .u8 c,.string (bs f),v]] w fun en w'=>en=.returned (.tuple #[.string (bs (putP a b c f l).1),.int .i64 (putP a b c f l).2])∧Below w.heap.size w w':=by
 obtain⟨R,hR⟩:∃ R,putP a b c f l=R:=⟨_,rfl⟩
 have HR:=hd0 hR
 rw[hR];clear hR
 obtain⟨A,e,hP⟩:∃ A e,putT l=(A,e):=⟨_,_,rfl⟩
 rw[hP] at hm
 have P1:∀ w,Tls w v l→Calls Tryz.prog 86 #[v] w fun en w'=>en=.returned (.tuple #[.string (bs A),.int .i64 e])∧Below w.heap.size w w':=fun w h=>by
  have h:=tput_any v l w h hl hs
  rw[hP] at h;exact h
 have HP1:=hd0 P1
 have HV:=hd0 hv
 have HP:=hd0 hP
 have HA:=hd0 ha
 have HB:=hd0 hb
 have HC:=hd0 hc
 have hsf:=bs_size f
 have hMA:A.length≤1000000000:=hm
 obtain⟨ad,cp,rfl,_⟩:=hv.shape
 clear P1 hv hP hl hs hm
 go_enter Tryz.func48,Tryz.ntmps48
 go_upto_region 1 with fail
 have pb0:=PB.new 103 w a b c f (.slice ad l.length cp)
 have hb0:Below w.heap.size w (w.alloc (.cells #[.int .u8 a,.int .u8 b,.int .u8 c,.string (bs f),.slice ad l.length cp] 103)):=bA _
 obtain⟨w1,hw1⟩:∃ k,w.alloc (.cells #[.int .u8 a,.int .u8 b,.int .u8 c,.string (bs f),.slice ad l.length cp] 103)=k:=⟨_,rfl⟩
 rw[hw1] at pb0 hb0 ⊢
 have c4:=pb0.c4
 have PB0:=hd0 pb0
 have HB0:=hd0 hb0
 clear hw1 pb0 hb0 ha hb hc
 go_wp2_with fail
 with_reducible refine(HP1.out _ (HV.out.later HB0.out)).mono ?_
 rintro en w2 ⟨rfl,hb2⟩
 have PB2:=hd0 (PB0.out.later hb2)
 have HB2:=hd0 (HB0.out.trans (hb2.mono HB0.out.size))
 clear hb2 PB0 HB0 c4
 go_upto_region 2 with fail
 have p0:=PB2.out.c0
 have p3:=PB2.out.c3
 have p0d:w2.drew.cell? ⟨w.heap.size,0,none⟩=some (.int .u8 a):=p0
 have p3d:w2.drew.cell? ⟨w.heap.size,3,none⟩=some (.string (bs f)):=p3
 refine wp_region_still_tail 10 (by kernel_rfl) (by kernel_rfl) ?_
 simp only[List.take_succ_cons,List.take_zero,List.drop_succ_cons,List.drop_zero]
 iterate 3 still_step
 still_call (wrong_any _ _ _)
 iterate 4 still_step
 still_call (wrong_any _ _ _)
 still_step
 try refine wpStill_nil ?_
 obtain⟨X,hX⟩:∃ X:Int,(if 7<a then(2:Int) else 0)=X:=⟨_,rfl⟩
 obtain⟨Y,hY⟩:∃ Y:Int,(if (255:Int)<(f.length:Int) then(5:Int) else 0)=Y:=⟨_,rfl⟩
 rw[hX,hY]
 change wpList _ _ _ _ _ w2.drew
 have pb3:PB 103 w2.drew w.heap.size a b c f (.slice ad l.length cp):=PB2.out
 have hb3:Below w.heap.size w w2.drew:=HB2.out.drew
 obtain⟨w3,hw3⟩:∃ k,w2.drew=k:=⟨_,rfl⟩
 rw[hw3] at pb3 hb3 ⊢
 have PB3:=hd0 pb3
 have HB3:=hd0 hb3
 have HX:=hd0 hX
 have HY:=hd0 hY
 clear hX hY hw3 pb3 hb3 p0 p3 p0d p3d PB2 HB2
 go_wp2_with fail
 with_reducible refine(first3_any _ X Y e _ (by simp[go_sem]) (by simp[go_sem]) (by simp[go_sem])).mono ?_
 rintro en _ ⟨rfl,rfl⟩
 have PB4:=hd0 (PB3.out.later (bA (.cells #[.int .i64 X,.int .i64 Y,.int .i64 e] 32)))
 have hb4:Below w.heap.size w (w3.alloc (.cells #[.int .i64 X,.int .i64 Y,.int .i64 e] 32)):=HB3.out.alloc HB3.out.size _
 obtain⟨w4,hw4⟩:∃ k,w3.alloc (.cells #[.int .i64 X,.int .i64 Y,.int .i64 e] 32)=k:=⟨_,rfl⟩
 rw[hw4] at PB4 hb4 ⊢
 have HB4:=hd0 hb4
 obtain⟨G,hG⟩:∃ G,fst3 X Y e=G:=⟨_,rfl⟩
 have hRR:(G=0∧a≤7∧f.length≤255∧R=(hdP a b c f++f++A,0))∨(G≠0∧R=([],G)):=by
  rw[←HR.out,← hG,← HX.out,← HY.out]
  unfold putP fst3
  rw[HP.out]
  by_cases h7:7<a
  ·right;rw[if_pos h7,if_pos h7,if_pos (by decide)];exact⟨by decide,rfl⟩
  ·rw[if_neg h7,if_neg h7,if_neg (by decide)]
   by_cases h5:255<f.length
   ·right;rw[if_pos h5,if_pos (show(255:Int)<(f.length:Int) by omega),if_pos (by decide)];exact⟨by decide,rfl⟩
   ·rw[if_neg h5,if_neg (show ¬(255:Int)<(f.length:Int) by omega),if_neg (by decide)]
    by_cases he:e=0
    ·left;rw[if_pos he];exact⟨he,by omega,by omega,rfl⟩
    ·right;rw[if_neg he];exact⟨he,rfl⟩
 rw[hG]
 clear hw4 hb4 hG PB3 HB3
 rcases hRR with⟨h0,h1,h2,h3⟩|⟨h0,h3⟩
 ·have hH:(hdP a b c f).length=4:=rfl
  have a1:=run_add_bs (hdP a b c f) f (by rw[hH];omega)
  have a2:=run_add_bs (hdP a b c f++f) A (by rw[List.length_append,hH];omega)
  have w8:IntKind.u8.wrap (a*32)=a*32:=IntWalk.u8_in _ (by have:=HA.out;omega)
  have wL:IntKind.u8.wrap (f.length:Int)=(f.length:Int):=IntWalk.u8_in _ (by omega)
  have hcv:∀ W:World,(convert 39 9 (.slice (some ⟨W.heap.size,0,none⟩) 4 4)).run Tryz.prog (W.alloc (.cells #[.int .u8 (a*32),.int .u8 b,.int .u8 c,.int .u8 (f.length:Int)] 5))=.ok (.string (bs (hdP a b c f))) (W.alloc (.cells #[.int .u8 (a*32),.int .u8 b,.int .u8 c,.int .u8 (f.length:Int)] 5)):=fun W=>run_string_src (src4 W _ _ _ _ _ (by have:=HA.out;omega) HB.out HC.out (by omega))
  obtain⟨H,hHH⟩:∃ H,hdP a b c f=H:=⟨_,rfl⟩
  rw[hHH] at a1 a2 hcv h3
  have d0:(G != 0)=false:=by rw[h0];rfl
  have p0:=PB4.out.c0
  have p1:=PB4.out.c1
  have p2:=PB4.out.c2
  have p3:=PB4.out.c3
  have p3a:∀ o:Obj,(w4.alloc o).cell? ⟨w.heap.size,3,none⟩=some (.string (bs f)):=fun o=>(PB4.out.later (bA o)).c3
  have H3:=hd0 h3
  clear h0 h1 h2 h3 hH hHH
  go_wp2_with fail
  refine bodyPost_ret (v:=.tuple #[.string (bs (H++f++A)),.int .i64 0]) (by simp[results,Tryz.results48,go_sem]) rfl ⟨by rw[H3.out],HB4.out.alloc HB4.out.size _⟩
 ·have d0:(G != 0)=true:=by rw[bne_iff_ne];exact h0
  have H3:=hd0 h3
  clear h0 h3
  go_wp2_with fail
  refine bodyPost_ret (v:=.tuple #[.string (bs []),.int .i64 G]) (by simp[results,Tryz.results48,go_sem];rfl) rfl ⟨by rw[H3.out],HB4.out⟩
def takeT:List UInt8→List Th × List UInt8 × Int
 |[]=>([],[],3)
 | c::s =>
  if c=0 then([],s,0)
  else if s.length<2 then([],[],3)
  else if (s.drop 2).length<(s.getD 0 0).toNat*256+(s.getD 1 0).toNat then([],[],3)
  else if (takeT (s.drop (2+((s.getD 0 0).toNat*256+(s.getD 1 0).toNat)))).2.2=0 then
   ((c,(s.drop 2).take ((s.getD 0 0).toNat*256+(s.getD 1 0).toNat))::(takeT (s.drop (2+((s.getD 0 0).toNat*256+(s.getD 1 0).toNat)))).1,(takeT (s.drop (2+((s.getD 0 0).toNat*256+(s.getD 1 0).toNat)))).2)
  else([],[],3)
termination_by s=>s.length
decreasing_by all_goals simp;omega
theorem takeT_nil:takeT []=([],[],3):=by unfold takeT;rfl
theorem takeT_zero (s:List UInt8):takeT (0::s)=([],s,0):=by unfold takeT;rfl
theorem takeT_cons (c:UInt8)(n:Nat)(t s:List UInt8)(a b:UInt8)(hc:c≠0)(hn:a.toNat*256+b.toNat=t.length) :
  takeT (c::a::b::(t++s))=if (takeT s).2.2=0 then((c,t)::(takeT s).1,(takeT s).2) else([],[],3):=by
 rw[takeT]
 have e1:(a::b::(t++s)).drop 2=t++s:=rfl
 have e2:(a::b::(t++s)).getD 0 0=a:=rfl
 have e3:(a::b::(t++s)).getD 1 0=b:=rfl
 have e4:(a::b::(t++s)).drop (2+t.length)=s:=by
  rw[Nat.add_comm 2];exact List.drop_left' (l₁:=t) rfl
 rw[if_neg hc,if_neg (by simp),e1,e2,e3,hn,if_neg (by simp),e4,List.take_left' rfl]
theorem takeT_short1 (c:UInt8)(s:List UInt8)(hc:c≠0)(h:s.length<2):takeT (c::s)=([],[],3):=by
 rw[takeT,if_neg hc,if_pos h]
theorem takeT_short2 (c a b:UInt8)(s:List UInt8)(hc:c≠0)(h:s.length<a.toNat*256+b.toNat):takeT (c::a::b::s)=([],[],3):=by
 rw[takeT,if_neg hc,if_neg (by simp),if_pos (by exact h)]
theorem takeT_err:∀ (n:Nat)(s:List UInt8),s.length≤n→(takeT s).2.2≠0→takeT s=([],[],3)
 | _,[],_,_=>takeT_nil
 | n+1,c::s,hn,h=>by
  rw[takeT] at h ⊢
  split at h
  ·exact absurd rfl h
  ·rename_i h1
   rw[if_neg h1]
   split at h
   ·rename_i h2;rw[if_pos h2]
   ·rename_i h2
    rw[if_neg h2]
    split at h
    ·rename_i h3;rw[if_pos h3]
    ·rename_i h3
     rw[if_neg h3]
     split at h
     ·rename_i h4;exact absurd h4 h
     ·rename_i h4;rw[if_neg h4]
def tkThing (l:List UInt8)(e:Int):List UInt8 × List UInt8 × Int:=rdText (rdText l e 2).2.1 (rdText l e 2).2.2 (numOf (rdText l e 2).1)
theorem thing_any (q p:Nat)(l:List UInt8)(e k0:Int)(w:World)(hr:Rd w p l e)(hc:w.cell? ⟨q,0,none⟩=some (.pointer (some ⟨p,0,none⟩)))(hq:q<w.heap.size)(hne:q≠p)(hl:l.length≤9223372036854775807) :
  Calls Tryz.prog 120 #[.int .u8 k0,.pointer (some ⟨q,0,none⟩)] w fun en w'=>en=.returned (.agg #[.int .u8 k0,.string (bs (tkThing l e).1)])∧Rd w' p (tkThing l e).2.1 (tkThing l e).2.2∧Only p w w':=by
 have h1:=numOf_lt (rdText l e 2).1 2 65536 (rdText_len l e 2) (by decide)
 have h0:=(numOf_bd (rdText l e 2).1).1
 have hle:=rd_le l e 2
 obtain⟨x,hx⟩:∃ x,numOf (rdText l e 2).1=x:=⟨_,rfl⟩
 have hT:tkThing l e=rdText (rdText l e 2).2.1 (rdText l e 2).2.2 x:=by unfold tkThing;rw[hx]
 have HU:Hid (∀ w,Rd w p l e→Calls Tryz.prog 121 #[.pointer (some ⟨p,0,none⟩)] w fun en w'=>en=.returned (.int .u16 x)∧Rd w' p (rdText l e 2).2.1 (rdText l e 2).2.2∧Only p w w'):=by
  rw[←hx];exact fun w hr=>U16_any p l e w hr hl
 rw[hx] at h1 h0
 have HX:Hid (∀ w,Rd w p (rdText l e 2).2.1 (rdText l e 2).2.2→Calls Tryz.prog 91 #[.pointer (some ⟨p,0,none⟩),.int .i64 x] w fun en w'=>en=.returned (.string (bs (tkThing l e).1))∧Rd w' p (tkThing l e).2.1 (tkThing l e).2.2∧Only p w w'):=by
  rw[hT];exact fun w hr=>text_any p _ _ x w hr (by omega)
 have hwx:IntKind.i64.wrap x=x:=IntWalk.i64_in _ (by omega)
 obtain⟨V,hV⟩:∃ V,(tkThing l e).1=V:=⟨_,rfl⟩
 rw[hV] at HX ⊢
 have hpl:=hr.lt
 have HR0:=hd0 hr
 have HC0:=hd0 hc
 clear hx hT hV hle hr hc
 go_enter Tryz.func120,Tryz.ntmps120
 go_upto_region 1 with fail
 refine forget (fun W=>Rd W p l e∧W.cell? ⟨q,0,none⟩=some (.pointer (some ⟨p,0,none⟩))∧W.cell? ⟨w.heap.size,0,none⟩=some (.int .u8 0)∧W.cell? ⟨w.heap.size,1,none⟩=some (.string { data:=#[] })∧W.frozen? ⟨w.heap.size,0,none⟩=false∧W.frozen? ⟨w.heap.size,1,none⟩=false∧Only p w W∧w.heap.size<W.heap.size)
  ⟨HR0.out.later (bA _),(((Below.refl w.heap.size w).alloc (Nat.le_refl _) _).cell hq).trans HC0.out,by simp[go_sem],by simp[go_sem],by simp[go_sem],by simp[go_sem],World.grownBy_alloc w _ _,by simp⟩ ?_
 rintro W ⟨hr,cq,c0,c1,f0,f1,ho,hz⟩
 obtain⟨t,ht⟩:∃ t,w.heap.size=t:=⟨_,rfl⟩
 rw[ht] at c0 c1 f0 f1 hz ⊢
 have htp:t≠p:=by omega
 have HT:Hid (w.heap.size≤t):=Nat.le_of_eq ht
 have hqW:q<W.heap.size:=by omega
 have HR:=hd0 hr
 have HO:=hd0 ho
 clear hr ho HR0 HC0 ht
 go_region_law (first
  |(go_simp;go_at_call 121;(with_reducible refine(HU.out _ ?_).mono ?_);exact HR.out;rintro en w1 ⟨rfl,hr1,ho1⟩;have cq1:=(ho1.cell hqW hne).trans cq;have a0:=(ho1.cell hz htp).trans c0;have a1:=(ho1.cell hz htp).trans c1;have b0:=(ho1.frozen hz htp).trans f0;have b1:=(ho1.frozen hz htp).trans f1;have hz1:=Nat.lt_of_lt_of_le hz ho1.size)
  |(go_simp;go_at_call 91;(with_reducible refine(HX.out _ ?_).mono ?_);exact hr1;rintro en w2 ⟨rfl,hr2,ho2⟩;have a2:=(ho2.cell hz1 htp).trans a0;have a3:=(ho2.cell hz1 htp).trans a1;have b2:=(ho2.frozen hz1 htp).trans b0;have b3:=(ho2.frozen hz1 htp).trans b1;have hz2:=Nat.lt_of_lt_of_le hz1 ho2.size))
 all_goals go_wp2_with fail
 all_goals refine bodyPost_ret (v:=.agg #[.int .u8 k0,.string (bs V)]) (by simp[results,Tryz.results120,go_sem,a2,a3]) rfl ⟨rfl,(hr2.setOther htp _).setOther htp _,((HO.out.trans (Only.undrew (ho1.trans ho2))).setNew HT.out _).setNew HT.out _⟩
def Sp (s cur:List UInt8)(out:List Th):Prop:=takeT s=if (takeT cur).2.2=0 then(out++(takeT cur).1,(takeT cur).2) else([],[],3)
theorem Sp.start (s:List UInt8):Sp s s []:=by
 unfold Sp
 by_cases h:(takeT s).2.2=0
 ·rw[if_pos h];rfl
 ·rw[if_neg h];exact takeT_err _ s (Nat.le_refl _) h
theorem Sp.bad {s cur:List UInt8}{out:List Th}(h:Sp s cur out)(hc:takeT cur=([],[],3)):takeT s=([],[],3):=by
 unfold Sp at h;rw[hc,if_neg (by decide)] at h;exact h
theorem numOf_two (a b:UInt8):numOf [a,b]=((a.toNat*256+b.toNat:Nat):Int):=by simp[numOf]
theorem rd_short (l:List UInt8)(k:Nat)(h:l.length<k):rdText l 0 k=([],[],3):=rdText_short l k h
theorem step_T {s r:List UInt8}{out:List Th}{c:UInt8}(hc:c≠0)(hS:Sp s (c::r) out) :
  ((tkThing r 0).2.2=0∧Sp s (tkThing r 0).2.1 (out++[(c,(tkThing r 0).1)])∧(tkThing r 0).2.1.length≤r.length)∨((tkThing r 0).2.2=3∧(tkThing r 0).2.1=[]∧takeT s=([],[],3)):=by
 by_cases h2:r.length<2
 ·right
  have e0:rdText r 0 2=([],[],3):=rd_short r 2 h2
  have e:tkThing r 0=([],[],3):=by unfold tkThing;rw[e0];rfl
  rw[e];exact⟨rfl,rfl,hS.bad (takeT_short1 c r hc h2)⟩
 ·obtain⟨a,b,t,rfl⟩:∃ a b t,r=a::b::t:=by
   match r,h2 with
   |[],h=>simp at h
   |[_],h=>simp at h
   | a::b::t,_=>exact⟨a,b,t,rfl⟩
  have e2:rdText (a::b::t) 0 2=([a,b],t,0):=rdText_app [a,b] t 2 rfl (by omega)
  by_cases h3:t.length<a.toNat*256+b.toNat
  ·right
   have e:tkThing (a::b::t) 0=([],[],3):=by unfold tkThing;rw[e2];simp only[numOf_two];exact rd_short t _ h3
   rw[e];exact⟨rfl,rfl,hS.bad (takeT_short2 c a b t hc h3)⟩
  ·left
   obtain⟨t1,t2,rfl,h4⟩:∃ t1 t2,t=t1++t2∧t1.length=a.toNat*256+b.toNat:=⟨t.take (a.toNat*256+b.toNat),t.drop (a.toNat*256+b.toNat),(List.take_append_drop _ t).symm,by simp;omega⟩
   have e:tkThing (a::b::(t1++t2)) 0=(t1,t2,0):=by
    unfold tkThing;rw[e2];simp only[numOf_two];rw[←h4];exact rd_exact t1 t2
   rw[e]
   refine⟨rfl,?_,by simp;omega⟩
   unfold Sp at hS ⊢
   rw[takeT_cons c 0 t1 t2 a b hc h4.symm] at hS
   by_cases h5:(takeT t2).2.2=0
   ·simp only[if_pos h5] at hS ⊢
    rw[hS];simp
   ·simp only[if_neg h5] at hS ⊢
    first|exact hS|(rw[if_neg (by decide)] at hS;exact hS)
theorem TlT.only {w w':World}{p B:Nat}{v:Value}{l:List Th}(h:TlT w B v l)(ho:Only p w w')(hp:p<B):TlT w' B v l:=by
 obtain⟨h1,h2⟩:=h
 refine⟨h1,?_⟩
 rcases h2 with h2|⟨g,cap,cur,hv,hg,hh,r⟩
 ·exact .inl h2
 ·refine .inr ⟨g,cap,cur,hv,hg,?_,r⟩
  have hlt:g<w.heap.size:=by
   rcases Nat.lt_or_ge g w.heap.size with h|h
   ·exact h
   ·rw[Array.getElem?_eq_none h] at hh;cases hh
  rw[ho.block g hlt (by simp;omega)];exact hh
theorem TK.below {w W W':World}{q:Nat}{l:List UInt8}{e:Int}(h:TK w q W l e)(hb:Below (q+1) W W'):TK w q W' l e:=by
 obtain⟨h1,h2,h3,h4,h5⟩:=h
 refine⟨?_,(hb.cell (p:=⟨q,0,none⟩) (Nat.lt_succ_self q)).trans h2,h3.trans (hb.mono (by omega)),Nat.lt_of_lt_of_le h4 hb.size,h5⟩
 unfold Rd;rw[hb.block _ (by omega)];exact h1
theorem ttake_any (s:List UInt8)(w:World)(hl:s.length≤100000):Calls Tryz.prog 92 #[.string (bs s)] w fun en w' =>
  ∃ v',en=.returned (.tuple #[v',.string (bs (takeT s).2.1),.int .i64 (takeT s).2.2])∧TlT w' w.heap.size v' (takeT s).1∧Below w.heap.size w w':=by
 obtain⟨R,hR⟩:∃ R,takeT s=R:=⟨_,rfl⟩
 have HR:=hd0 hR
 rw[hR];clear hR
 go_enter Tryz.func92,Tryz.ntmps92
 go_wp2
 go_step3
 go_wp2_with fail
 with_reducible refine(of_any s w).mono ?_
 rintro en w1 ⟨rfl,hr,hb,hlt⟩
 have tk0:TK w w1.heap.size (w1.alloc (.cells #[.pointer (some ⟨w.heap.size,0,none⟩)] 188)) s 0 :=
  ⟨hr.later (bA _),by simp[go_sem],hb.alloc hb.size _,by simp,hlt⟩
 have TK0:=hd0 tk0
 clear tk0 hr hb
 go_wp2_with fail
 go_step3
 go_wp2_with fail
 refine forget (fun W=>TK w w1.heap.size W s 0) TK0.out ?_
 intro W0 tk0
 obtain⟨q,hq⟩:∃ q,w1.heap.size=q:=⟨_,rfl⟩
 rw[hq] at tk0 hlt ⊢
 clear TK0 hq
 go_loopg [6] (s.length+1) (fun g v wx=>∃ cur e out,g=cur.length+(if e=0 then 1 else 0)∧TK w q wx cur e∧TlT wx (q+1) v out∧out.length+cur.length≤100000∧((e=0∧Sp s cur out)∨(e=3∧cur=[]∧takeT s=([],[],3))))
 case atStart=>exact⟨s,0,[],by simp,tk0,TlT.none _ _,by simpa using hl,.inl ⟨rfl,Sp.start s⟩⟩
 case round =>
  clear tk0
  obtain⟨cur,e,out,hg,tk,hown,hol,hinv⟩:=hrel
  have HG:=hd0 hg
  have HO:=hd0 hown
  have HOL:=hd0 hol
  have cq:=tk.ptr
  have TK1:=hd0 tk
  clear hg hown hol tk
  have hcl:cur.length≤100000:=by have:=HOL.out;omega
  rcases hinv with⟨rfl,hS⟩|⟨rfl,rfl,hS⟩
  ·match cur with
   |[] =>
    have hRR:=HR.out.symm.trans (hS.bad takeT_nil)
    have HRR:=hd0 hRR
    have HU:Hid (Calls Tryz.prog 90 #[.pointer (some ⟨w.heap.size,0,none⟩)] wr fun en w'=>en=.returned (.int .u8 0)∧Rd w' w.heap.size [] 3∧Only w.heap.size wr w'):=U8_any w.heap.size [] 0 wr TK1.out.rd (by simp)
    clear hS hRR
    go_wp2_with fail
    with_reducible refine HU.out.mono ?_
    rintro en w2 ⟨rfl,hr2,ho2⟩
    have tk2:=TK1.out.next hr2 ho2
    have cq2:=tk2.ptr
    have TK2:=hd0 tk2
    have HE:=hd0 (err_any w.heap.size [] 3 w2 hr2)
    clear hr2 ho2 tk2 cq TK1 HU
    go_wp2_with fail
    with_reducible refine HE.out.mono ?_
    rintro en _ ⟨rfl,rfl⟩
    go_wp2
    try rw[Exit.noGoto_ret]
    refine bodyPost_ret (v:=.tuple #[.slice none 0 0,.string (bs []),.int .i64 3]) (by simp[results,Tryz.results92,go_sem];rfl) rfl ⟨_,by rw[HRR.out],by rw[HRR.out];exact TlT.none _ _,TK2.out.bel⟩
   | c::r =>
    obtain⟨x,hx⟩:∃ x:Int,(c.toNat:Int)=x:=⟨_,rfl⟩
    have hc0:c=0↔x=0:=by
     constructor
     ·rintro rfl;rw[←hx];rfl
     ·intro h;apply UInt8.toNat_inj.1;show _=0;omega
    have HU:Hid (Calls Tryz.prog 90 #[.pointer (some ⟨w.heap.size,0,none⟩)] wr fun en w'=>en=.returned (.int .u8 x)∧Rd w' w.heap.size r 0∧Only w.heap.size wr w'):=by
     have h:=U8_any w.heap.size (c::r) 0 wr TK1.out.rd (by have:=hcl;omega)
     have e1:rdText (c::r) 0 1=([c],r,0):=rd_one c r
     simp only[e1,numOf_one,hx] at h
     exact h
    have hrl:r.length≤100000:=by simp at hcl;omega
    have hgr:gk=r.length+2:=by have:=HG.out;simp at this;omega
    have hol2:out.length+r.length+1≤100000:=by have:=HOL.out;simp at this;omega
    go_wp2_with fail
    with_reducible refine HU.out.mono ?_
    rintro en w2 ⟨rfl,hr2,ho2⟩
    have tk2:=TK1.out.next hr2 ho2
    have cq2:=tk2.ptr
    have TK2:=hd0 tk2
    have HE:=hd0 (err_any w.heap.size r 0 w2 hr2)
    have HO2:=hd0 (HO.out.only ho2 (by have:=tk2.2.2.2.2;omega))
    clear hr2 ho2 tk2 cq TK1 HU HO
    go_wp2_with fail
    with_reducible refine HE.out.mono ?_
    rintro en _ ⟨rfl,rfl⟩
    by_cases h0:x=0
    ·have d0:(x==0)=true:=by simpa using h0
     have hT:takeT s=(out,r,0):=by
      have:=hS;unfold Sp at this;rw[hc0.2 h0,takeT_zero,if_pos rfl] at this;simpa using this
     have hRR:=HR.out.symm.trans hT
     have HRR:=hd0 hRR
     have e1:rdRest r 0=(r,[],0):=by
      have:=rd_exact r []
      rw[List.append_nil] at this;exact this
     have HRS:Hid (Calls Tryz.prog 93 #[.pointer (some ⟨w.heap.size,0,none⟩)] w2 fun en w'=>en=.returned (.string (bs r))∧Only w.heap.size w2 w'):=by
      have h:=rest_any w.heap.size r 0 w2 TK2.out.rd (by omega)
      rw[e1] at h
      exact h.mono fun _ _ h=>⟨h.1,h.2.2⟩
     clear h0 hT hRR hS hc0 e1
     go_wp2_with fail
     with_reducible refine HRS.out.mono ?_
     rintro en w3 ⟨rfl,ho3⟩
     have HO3:=hd0 (HO2.out.only ho3 (by have:=TK2.out.2.2.2.2;omega))
     have HB3:=hd0 (TK2.out.bel.trans (ho3.below (Nat.le_refl _) TK2.out.bel.size))
     have HQ:=hd0 TK2.out.2.2.2.2
     clear ho3
     go_wp2
     rw[Exit.noGoto_ret]
     refine bodyPost_ret (v:=.tuple #[u6,.string (bs r),.int .i64 0]) (by simp[results,Tryz.results92,go_sem]) rfl ⟨_,by rw[HRR.out],by rw[HRR.out];exact HO3.out.mono (by have:=HQ.out;omega),HB3.out⟩
    ·have d0:(x==0)=false:=by simpa using h0
     have hcn:c≠0:=fun h=>h0 (hc0.1 h)
     have hst:=step_T hcn hS
     have HT:=hd0 (thing_any q w.heap.size r 0 x w2 TK2.out.rd cq2 TK2.out.lt TK2.out.ne (by omega))
     obtain⟨V,l',e',hV⟩:∃ V l' e',tkThing r 0=(V,l',e'):=⟨_,_,_,rfl⟩
     have hl':l'.length≤r.length:=by
      have:(tkThing r 0).2.1.length≤r.length:=by unfold tkThing;exact Nat.le_trans (rd_le _ _ _) (rd_le _ _ _)
      rw[hV] at this;exact this
     rw[hV] at HT hst
     simp only at HT hst
     have HST:=hd0 hst
     have HX:=hd0 hx
     clear h0 hcn hS hc0 hst hV hx
     go_wp2_with fail
     with_reducible refine HT.out.mono ?_
     rintro en w3 ⟨rfl,hr3,ho3⟩
     have tk3:=TK2.out.next hr3 ho3
     have hq1:q+1≤w3.heap.size:=tk3.lt
     have HO3:=hd0 ((HO2.out.only ho3 (by have:=TK2.out.2.2.2.2;omega)).later (bA (.cells #[.int .u8 x,.string (bs V)] 182)))
     have HSRC:Hid (Tls (w3.alloc (.cells #[.int .u8 x,.string (bs V)] 182)) (.slice (some ⟨w3.heap.size,0,none⟩) 1 1) [(c,V)]):=by
      have h:=(TlT.lit w3 0 (c,V) (Nat.zero_le _)).tls
      simp only at h
      rw[HX.out] at h;exact h
     have TK3:=hd0 (tk3.below ((Below.refl _ _).alloc hq1 (.cells #[.int .u8 x,.string (bs V)] 182)))
     clear hr3 ho3 tk3 cq2 TK2 HO2
     go_wp2_with (at_builtin;refine wpList_append_T rfl (.tmp 21) (.tmp 25) rfl (q+1) _ out rfl HO3.out _ [(c,V)] rfl HSRC.out ?_ ?_ ?_)
     ·simp;omega
     ·simp;omega
     ·intro v4 w4 hown4 hb4
      have HO4:=hd0 hown4
      have TK4:=hd0 (TK3.out.below hb4)
      clear hown4 hb4 HO3 HSRC TK3
      go_wp2
      go_roundg (l'.length+(if e'=0 then 1 else 0))
      case measure=>rw[hgr];split <;> omega
      case rel =>
       refine⟨l',e',out++[(c,V)],rfl,TK4.out,HO4.out,by simp;omega,?_⟩
       rcases HST.out with⟨h1,h2,_⟩|⟨h1,h2,h3⟩
       ·exact .inl ⟨h1,h2⟩
       ·exact .inr ⟨h1,h2,h3⟩
  ·have hRR:=HR.out.symm.trans hS
   have HRR:=hd0 hRR
   have HU:Hid (Calls Tryz.prog 90 #[.pointer (some ⟨w.heap.size,0,none⟩)] wr fun en w'=>en=.returned (.int .u8 0)∧Rd w' w.heap.size [] 3∧Only w.heap.size wr w'):=U8_any w.heap.size [] 3 wr TK1.out.rd (by simp)
   clear hS hRR
   go_wp2_with fail
   with_reducible refine HU.out.mono ?_
   rintro en w2 ⟨rfl,hr2,ho2⟩
   have tk2:=TK1.out.next hr2 ho2
   have cq2:=tk2.ptr
   have TK2:=hd0 tk2
   have HE:=hd0 (err_any w.heap.size [] 3 w2 hr2)
   clear hr2 ho2 tk2 cq TK1 HU
   go_wp2_with fail
   with_reducible refine HE.out.mono ?_
   rintro en _ ⟨rfl,rfl⟩
   go_wp2
   rw[Exit.noGoto_ret]
   refine bodyPost_ret (v:=.tuple #[.slice none 0 0,.string (bs []),.int .i64 3]) (by simp[results,Tryz.results92,go_sem];rfl) rfl ⟨_,by rw[HRR.out],by rw[HRR.out];exact TlT.none _ _,TK2.out.bel⟩
def tkP:List UInt8→Int × Int × Int × List UInt8 × List Th × Int
 | x::y::z::n::r=>if (x.toNat:Int) % 32≠0 then(0,0,0,[],[],4) else if r.length<n.toNat then(0,0,0,[],[],3) else if (takeT (r.drop n.toNat)).2.2=0 then((x.toNat:Int) / 32,y.toNat,z.toNat,r.take n.toNat,(takeT (r.drop n.toNat)).1,0) else(0,0,0,[],[],(takeT (r.drop n.toNat)).2.2)
 | _=>(0,0,0,[],[],3)
theorem tkP_cons (x y z n:UInt8)(r:List UInt8):tkP (x::y::z::n::r)=if (x.toNat:Int) % 32≠0 then(0,0,0,[],[],4) else if r.length<n.toNat then(0,0,0,[],[],3) else if (takeT (r.drop n.toNat)).2.2=0 then((x.toNat:Int) / 32,(y.toNat:Int),(z.toNat:Int),r.take n.toNat,(takeT (r.drop n.toNat)).1,0) else(0,0,0,[],[],(takeT (r.drop n.toNat)).2.2):=rfl
theorem tkP_short (s:List UInt8)(h:s.length<4):tkP s=(0,0,0,[],[],3):=by
 match s,h with
 |[],_=>rfl
 |[_],_=>rfl
 |[_,_],_=>rfl
 |[_,_,_],_=>rfl
theorem list4 (s:List UInt8)(h:4≤s.length):∃ x y z n r,s=x::y::z::n::r:=by
 match s,h with
 | x::y::z::n::r,_=>exact⟨x,y,z,n,r,rfl⟩
theorem bsAt (s:List UInt8)(j:Nat)(c:UInt8)(x:Int)(h:s[j]?=some c)(hx:(c.toNat:Int)=x):∀ h':j<(bs s).size,(((bs s)[j]'h').toNat:Int)=x:=fun h'=>by
 obtain⟨hj,hc⟩:=List.getElem?_eq_some_iff.1 h
 rw[bs_get s j h' hj,hc,hx]
theorem rdc (c:UInt8)(r:List UInt8):rdText (c::r) 0 1=([c],r,0):=rdText_app [c] r 1 rfl (by omega)
section
variable {T:TypeId} {W W':World} {q:Nat} {a b c:Int} {f:List UInt8} {v:Value}
theorem PB.set3 (h:PB T W q a b c f v)(g:List UInt8):PB T (W.setCell ⟨q,3,none⟩ (.string (bs g))) q a b c g v:=by
 unfold PB at *;simp[World.setCell,Array.getElem?_modify,h]
theorem PB.set4 (h:PB T W q a b c f v)(u:Value):PB T (W.setCell ⟨q,4,none⟩ u) q a b c f u:=by
 unfold PB at *;simp[World.setCell,Array.getElem?_modify,h]
theorem PB.other {t o:Nat}(h:PB T W q a b c f v)(ht:t≠q)(u:Value):PB T (W.setCell ⟨t,o,none⟩ u) q a b c f v:=by
 unfold PB;rw[Below.heap_setCell _ _ _ _ (by intro e;simp at e;omega)];exact h
theorem PB.only {p:Nat}(h:PB T W q a b c f v)(ho:Only p W W')(hne:q≠p):PB T W' q a b c f v:=by
 unfold PB;rw[ho.block q h.lt (by simpa using hne)];exact h
end
structure CS (w:World)(q:Nat)(W:World)(l:List UInt8)(e:Int)(a b c:Int)(f:List UInt8)(v:Value):Prop where
 rd:Rd W (w.heap.size+1) l e
 z:PB 103 W w.heap.size 0 0 0 [] (.slice none 0 0)
 p:PB 103 W q a b c f v
 bel:Below w.heap.size w W
 hq:w.heap.size+1<q
section
variable {w W W':World} {q:Nat} {l l':List UInt8} {e e' a b c:Int} {f:List UInt8} {v:Value}
theorem CS.next (h:CS w q W l e a b c f v)(hr:Rd W' (w.heap.size+1) l' e')(ho:Only (w.heap.size+1) W W'):CS w q W' l' e' a b c f v :=
 ⟨hr,h.z.only ho (by omega),h.p.only ho (by have:=h.hq;omega),h.bel.trans (ho.below (by omega) h.bel.size),h.hq⟩
theorem CS.later (h:CS w q W l e a b c f v)(hb:Below W.heap.size W W'):CS w q W' l e a b c f v :=
 ⟨h.rd.later hb,h.z.later hb,h.p.later hb,h.bel.trans (hb.mono h.bel.size),h.hq⟩
theorem CS.set3 (h:CS w q W l e a b c f v)(g:List UInt8):CS w q (W.setCell ⟨q,3,none⟩ (.string (bs g))) l e a b c g v :=
 ⟨h.rd.setOther (by have:=h.hq;omega) _,h.z.other (by have:=h.hq;omega) _,h.p.set3 g,below_set h.bel (by have:=h.hq;omega) _,h.hq⟩
theorem CS.set4 (h:CS w q W l e a b c f v)(u:Value):CS w q (W.setCell ⟨q,4,none⟩ u) l e a b c f u :=
 ⟨h.rd.setOther (by have:=h.hq;omega) _,h.z.other (by have:=h.hq;omega) _,h.p.set4 u,below_set h.bel (by have:=h.hq;omega) _,h.hq⟩
end
theorem ctake_any (s:List UInt8)(w:World)(hl:s.length≤100000):Calls Tryz.prog 53 #[.string (bs s)] w fun en w' =>
  ∃ v',en=.returned (.tuple #[.agg #[.int .u8 (tkP s).1,.int .u8 (tkP s).2.1,.int .u8 (tkP s).2.2.1,.string (bs (tkP s).2.2.2.1),v'],.int .i64 (tkP s).2.2.2.2.2])∧TlT w' w.heap.size v' (tkP s).2.2.2.2.1∧Below w.heap.size w w':=by
 have hsz:=bs_size s
 obtain⟨R,hR⟩:∃ R,tkP s=R:=⟨_,rfl⟩
 have HR:=hd0 hR
 rw[hR];clear hR
 by_cases h4:s.length<4
 ·have d4:decide ((s.length:Int)<4)=true:=decide_eq_true (by omega)
  have hRR:R=(0,0,0,[],[],3):=by rw[←HR.out];exact tkP_short s h4
  have HRR:=hd0 hRR
  clear hRR h4
  go_enter Tryz.func53,Tryz.ntmps53
  go_wp2_with fail
  refine bodyPost_ret (v:=.tuple #[.agg #[.int .u8 0,.int .u8 0,.int .u8 0,.string (bs []),.slice none 0 0],.int .i64 3]) (by simp[results,Tryz.results53,go_sem];rfl) rfl ⟨.slice none 0 0,by rw[HRR.out],by rw[HRR.out];exact TlT.none _ _,bA _⟩
 have d4:decide ((s.length:Int)<4)=false:=decide_eq_false (by omega)
 obtain⟨x,y,z,n,r,hs⟩:=list4 s (by omega)
 obtain⟨X,eX⟩:∃ i:Int,(x.toNat:Int)=i:=⟨_,rfl⟩
 have gX:=bsAt s 0 x X (by rw[hs];rfl) eX
 have xb:0≤X∧X<256:=by have:=x.toNat_lt;omega
 have mk:bits .and .u8 X 31=X % 32:=bits_mask .u8 8 (by decide) wraps_u8 5 (by decide) X xb.1 xb.2
 have L4:4≤s.length:=by omega
 by_cases hx:X % 32=0
 rotate_left
 ·have dx:(X % 32 != 0)=true:=by rw[bne_iff_ne];exact hx
  have hRR:R=(0,0,0,[],[],4):=by rw[←HR.out,hs,tkP_cons,if_pos (by omega)]
  have HRR:=hd0 hRR
  clear hRR h4 hs hx
  go_enter Tryz.func53,Tryz.ntmps53
  go_wp2_with fail
  refine bodyPost_ret (v:=.tuple #[.agg #[.int .u8 0,.int .u8 0,.int .u8 0,.string (bs []),.slice none 0 0],.int .i64 4]) (by simp[results,Tryz.results53,go_sem];rfl) rfl ⟨.slice none 0 0,by rw[HRR.out],by rw[HRR.out];exact TlT.none _ _,bA _⟩
 have dx:(X % 32 != 0)=false:=by rw[hx];rfl
 obtain⟨Y,eY⟩:∃ i:Int,(y.toNat:Int)=i:=⟨_,rfl⟩
 obtain⟨Z,eZ⟩:∃ i:Int,(z.toNat:Int)=i:=⟨_,rfl⟩
 obtain⟨N,eN⟩:∃ i:Int,(n.toNat:Int)=i:=⟨_,rfl⟩
 have yb:0≤Y∧Y<256:=by have:=y.toNat_lt;omega
 have zb:0≤Z∧Z<256:=by have:=z.toNat_lt;omega
 have nb:0≤N∧N<256:=by have:=n.toNat_lt;omega
 have rl:r.length≤100000:=by rw[hs] at hl;simp at hl;omega
 obtain⟨F,l5,e5,h5⟩:∃ a b c,rdText r 0 N=(a,b,c):=⟨_,_,_,rfl⟩
 obtain⟨D,l6,e6,h6⟩:∃ a b c,rdRest l5 e5=(a,b,c):=⟨_,_,_,rfl⟩
 obtain⟨L,t7,g,h7⟩:∃ a b c,takeT D=(a,b,c):=⟨_,_,_,rfl⟩
 have l5l:l5.length≤100000:=by have:=rd_le r 0 N;rw[h5] at this;exact Nat.le_trans this rl
 have Dl:D.length≤100000:=by have:=rd_le1 l5 e5 (l5.length:Int);rw[show rdText l5 e5 (l5.length:Int)=rdRest l5 e5 from rfl,h6] at this;exact Nat.le_trans this l5l
 have U1:∀ w p,Rd w p s 0→Calls Tryz.prog 90 #[.pointer (some ⟨p,0,none⟩)] w fun en w'=>en=.returned (.int .u8 X)∧Rd w' p (y::z::n::r) 0∧Only p w w':=fun w p hr=>by
  have h:=U8_any p s 0 w hr (by omega)
  rw[hs,rdc,numOf_one,eX] at h;exact h
 have U2:∀ w p,Rd w p (y::z::n::r) 0→Calls Tryz.prog 90 #[.pointer (some ⟨p,0,none⟩)] w fun en w'=>en=.returned (.int .u8 Y)∧Rd w' p (z::n::r) 0∧Only p w w':=fun w p hr=>by
  have h:=U8_any p _ 0 w hr (by simp;omega)
  rw[rdc,numOf_one,eY] at h;exact h
 have U3:∀ w p,Rd w p (z::n::r) 0→Calls Tryz.prog 90 #[.pointer (some ⟨p,0,none⟩)] w fun en w'=>en=.returned (.int .u8 Z)∧Rd w' p (n::r) 0∧Only p w w':=fun w p hr=>by
  have h:=U8_any p _ 0 w hr (by simp;omega)
  rw[rdc,numOf_one,eZ] at h;exact h
 have U4:∀ w p,Rd w p (n::r) 0→Calls Tryz.prog 90 #[.pointer (some ⟨p,0,none⟩)] w fun en w'=>en=.returned (.int .u8 N)∧Rd w' p r 0∧Only p w w':=fun w p hr=>by
  have h:=U8_any p _ 0 w hr (by simp;omega)
  rw[rdc,numOf_one,eN] at h;exact h
 have T5:∀ w p,Rd w p r 0→Calls Tryz.prog 91 #[.pointer (some ⟨p,0,none⟩),.int .i64 N] w fun en w'=>en=.returned (.string (bs F))∧Rd w' p l5 e5∧Only p w w':=fun w p hr=>by
  have h:=text_any p r 0 N w hr (by omega)
  rw[h5] at h;exact h
 have R6:∀ w p,Rd w p l5 e5→Calls Tryz.prog 93 #[.pointer (some ⟨p,0,none⟩)] w fun en w'=>en=.returned (.string (bs D))∧Rd w' p l6 e6∧Only p w w':=fun w p hr=>by
  have h:=rest_any p l5 e5 w hr (by omega)
  rw[h6] at h;exact h
 have K7:∀ w,Calls Tryz.prog 92 #[.string (bs D)] w fun en w'=>∃ v',en=.returned (.tuple #[v',.string (bs t7),.int .i64 g])∧TlT w' w.heap.size v' L∧Below w.heap.size w w':=fun w=>by
  have h:=ttake_any D w Dl
  rw[h7] at h;exact h
 obtain⟨G,hG⟩:∃ G,(if e6≠0 then e6 else g)=G:=⟨_,rfl⟩
 have hRR:(G=0∧R=(X / 32,Y,Z,F,L,0))∨(G≠0∧R=(0,0,0,[],[],G)):=by
  rw[←HR.out,hs,tkP_cons,if_neg (show ¬(x.toNat:Int) % 32≠0 by omega),eX,eY,eZ,← hG]
  by_cases hn:r.length<n.toNat
  ·have e5':rdText r 0 N=([],[],3):=by unfold rdText;rw[if_neg (by omega),if_pos (by omega)]
   rw[e5'] at h5;injection h5 with _ h5;injection h5 with q1 q2
   rw[←q1,← q2] at h6
   have e6':rdRest ([]:List UInt8) 3=([],[],3):=rfl
   rw[e6'] at h6;injection h6 with _ h6;injection h6 with _ q3
   right;rw[if_pos hn,← q3,if_pos (show(3:Int)≠0 by decide)];exact⟨by decide,rfl⟩
  ·have e5':rdText r 0 N=(r.take n.toNat,r.drop n.toNat,0):=by
    unfold rdText
    by_cases h0:N≤0
    ·rw[if_pos (Or.inl h0),show n.toNat=0 by omega];rfl
    ·rw[if_neg (by omega),if_neg (by omega),show N.toNat=n.toNat by omega]
   rw[e5'] at h5;injection h5 with q0 h5;injection h5 with q1 q2
   rw[←q1,← q2] at h6
   have e6':rdRest (r.drop n.toNat) 0=(r.drop n.toNat,[],0):=by
    unfold rdRest rdText
    by_cases h0:((r.drop n.toNat).length:Int)≤0
    ·have:r.drop n.toNat=[]:=List.eq_nil_of_length_eq_zero (by omega)
     rw[this];rfl
    ·rw[if_neg (by omega),if_neg (by omega),show((r.drop n.toNat).length:Int).toNat=(r.drop n.toNat).length by omega,List.take_length,List.drop_length]
   rw[e6'] at h6;injection h6 with q3 h6;injection h6 with _ q4
   rw[if_neg hn,q3,h7,← q4,if_neg (by decide),q0]
   by_cases hg:g=0
   ·left;rw[if_pos hg];exact⟨hg,by rfl⟩
   ·right;rw[if_neg hg];exact⟨hg,rfl⟩
 have HRR:=hd0 hRR
 have UU1:=hd0 U1
 have UU2:=hd0 U2
 have UU3:=hd0 U3
 have UU4:=hd0 U4
 have TT5:=hd0 T5
 have RR6:=hd0 R6
 have KK7:=hd0 K7
 have HG:=hd0 hG
 have wx:IntKind.u8.wrap (X / 32)=X / 32:=IntWalk.u8_in _ (by omega)
 clear hRR U1 U2 U3 U4 T5 R6 K7 hG h4 hs hx eX eY eZ eN h5 h6 h7
 go_enter Tryz.func53,Tryz.ntmps53
 go_wp2_with fail
 obtain⟨w0,hw0⟩:∃ w0,w.alloc (.cells yU 103)=w0:=⟨_,rfl⟩
 have pz:PB 103 w0 w.heap.size 0 0 0 [] (.slice none 0 0):=by rw[←hw0];exact PB.new 103 w 0 0 0 [] (.slice none 0 0)
 have hb0:Below w.heap.size w w0:=by rw[←hw0];exact bA _
 have hz0:w0.heap.size=w.heap.size+1:=by rw[←hw0];simp
 rw[hw0]
 clear hw0
 with_reducible refine(of_any s w0).mono ?_
 rintro en w1 ⟨rfl,hr1,hb1,hlt⟩
 rw[hz0] at hr1 ⊢
 have PZ1:=hd0 (pz.later hb1)
 have HB1:=hd0 (hb0.trans (hb1.mono hb0.size))
 have HR1:=hd0 hr1
 clear pz hb0 hr1 hb1
 go_wp2_with fail
 with_reducible refine(UU1.out _ _ HR1.out).mono ?_
 rintro en w2 ⟨rfl,hr2,ho2⟩
 have PZ2:=hd0 (PZ1.out.only ho2 (by omega))
 have HB2:=hd0 (HB1.out.trans (ho2.below (by omega) HB1.out.size))
 have HR2:=hd0 hr2
 clear hr2 ho2 PZ1 HB1 HR1
 go_wp2_with fail
 with_reducible refine(UU2.out _ _ HR2.out).mono ?_
 rintro en w3 ⟨rfl,hr3,ho3⟩
 have PZ3:=hd0 (PZ2.out.only ho3 (by omega))
 have HB3:=hd0 (HB2.out.trans (ho3.below (by omega) HB2.out.size))
 have HR3:=hd0 hr3
 clear hr3 ho3 PZ2 HB2 HR2
 go_wp2_with fail
 with_reducible refine(UU3.out _ _ HR3.out).mono ?_
 rintro en w4 ⟨rfl,hr4,ho4⟩
 have PZ4:=hd0 (PZ3.out.only ho4 (by omega))
 have HB4:=hd0 (HB3.out.trans (ho4.below (by omega) HB3.out.size))
 have HR4:=hd0 hr4
 clear hr4 ho4 PZ3 HB3 HR3
 go_upto_region 7 with fail
 have hlt4:w.heap.size+1<w4.heap.size:=HR4.out.lt
 have cs4:CS w w4.heap.size (w4.alloc (.cells #[.int .u8 (X / 32),.int .u8 Y,.int .u8 Z,.string { data:=#[] },.slice none 0 0] 103)) (n::r) 0 (X / 32) Y Z [] (.slice none 0 0) :=
  ⟨HR4.out.later (bA _),PZ4.out.later (bA _),PB.new 103 w4 (X / 32) Y Z [] (.slice none 0 0),HB4.out.alloc HB4.out.size _,hlt4⟩
 obtain⟨q,hq⟩:∃ q,w4.heap.size=q:=⟨_,rfl⟩
 obtain⟨w5,hw5⟩:∃ k,w4.alloc (.cells #[.int .u8 (X / 32),.int .u8 Y,.int .u8 Z,.string { data:=#[] },.slice none 0 0] 103)=k:=⟨_,rfl⟩
 rw[hw5] at cs4 ⊢
 rw[hq] at cs4 ⊢
 have CS5:=hd0 cs4
 clear cs4 hw5 hq PZ4 HB4 HR4 hlt4
 go_wp2_with fail
 with_reducible refine(UU4.out _ _ CS5.out.rd).mono ?_
 rintro en w6 ⟨rfl,hr6,ho6⟩
 have CS6:=hd0 (CS5.out.next hr6 ho6)
 clear hr6 ho6 CS5
 go_wp2_with fail
 with_reducible refine(TT5.out _ _ CS6.out.rd).mono ?_
 rintro en w7 ⟨rfl,hr7,ho7⟩
 have CS7:=hd0 (CS6.out.next hr7 ho7)
 have c3:=CS7.out.p.c3
 have f3:=CS7.out.p.fr 3
 clear hr7 ho7 CS6
 go_upto_region 8 with fail
 have cs8:=CS7.out.set3 F
 obtain⟨w8,hw8⟩:∃ k,w7.setCell ⟨q,3,none⟩ (.string (bs F))=k:=⟨_,rfl⟩
 rw[hw8] at cs8 ⊢
 have CS8:=hd0 cs8
 clear cs8 hw8 CS7 c3 f3
 go_wp2_with fail
 with_reducible refine(RR6.out _ _ CS8.out.rd).mono ?_
 rintro en w9 ⟨rfl,hr9,ho9⟩
 have CS9:=hd0 (CS8.out.next hr9 ho9)
 clear hr9 ho9 CS8
 go_wp2_with fail
 with_reducible refine(KK7.out _).mono ?_
 rintro en wa ⟨v',rfl,hown,hba⟩
 have CSa:=hd0 (CS9.out.later hba)
 have hqa:q<w9.heap.size:=CS9.out.p.lt
 have HO:=hd0 hown
 have HQA:=hd0 hqa
 obtain⟨sa,sc,rfl,_⟩:=hown.tls.shape
 have c4:=CSa.out.p.c4
 have f4:=CSa.out.p.fr 4
 clear hown hba CS9 hqa
 go_upto_region 10 with fail
 have csb:=CSa.out.set4 (.slice sa L.length sc)
 have hob:=HO.out.set HQA.out (o:=4) (.slice sa L.length sc)
 obtain⟨wb,hwb⟩:∃ k,wa.setCell ⟨q,4,none⟩ (.slice sa L.length sc)=k:=⟨_,rfl⟩
 rw[hwb] at csb hob ⊢
 have CSb:=hd0 csb
 have HOb:=hd0 hob
 clear csb hob hwb CSa HO c4 f4
 go_wp2_with fail
 with_reducible refine(err_any _ _ _ _ CSb.out.rd).mono ?_
 rintro en _ ⟨rfl,rfl⟩
 go_wp2_with fail
 with_reducible refine(first2_any _ e6 g _ (by simp[go_sem]) (by simp[go_sem])).mono ?_
 rintro en _ ⟨rfl,rfl⟩
 rw[HG.out]
 have csc:=CSb.out.later (bA (.cells #[.int .i64 e6,.int .i64 g] 32))
 have hoc:=HOb.out.later (bA (.cells #[.int .i64 e6,.int .i64 g] 32))
 obtain⟨wc,hwc⟩:∃ k,wb.alloc (.cells #[.int .i64 e6,.int .i64 g] 32)=k:=⟨_,rfl⟩
 rw[hwc] at csc hoc ⊢
 have CSc:=hd0 csc
 have HOc:=hd0 hoc
 have z0:=csc.z.c0
 have z1:=csc.z.c1
 have z2:=csc.z.c2
 have z3:=csc.z.c3
 have z4:=csc.z.c4
 have y0:=csc.z.fr 0
 have y1:=csc.z.fr 1
 have y2:=csc.z.fr 2
 have y3:=csc.z.fr 3
 have y4:=csc.z.fr 4
 have k0:=csc.p.c0
 have k1:=csc.p.c1
 have k2:=csc.p.c2
 have k3:=csc.p.c3
 have k4:=csc.p.c4
 clear csc hoc hwc CSb HOb HG
 rcases HRR.out with⟨h0,h3⟩|⟨h0,h3⟩
 ·have d0:(G != 0)=false:=by rw[h0];rfl
  have H3:=hd0 h3
  clear h0 h3
  go_wp2_with fail
  refine bodyPost_ret (v:=.tuple #[.agg #[.int .u8 (X / 32),.int .u8 Y,.int .u8 Z,.string (bs F),.slice sa L.length sc],.int .i64 0]) (by simp[results,Tryz.results53,go_sem,z0,z1,z2,z3,z4]) rfl ⟨.slice sa L.length sc,by rw[H3.out],?_,below_set (below_set (below_set (below_set (below_set CSc.out.bel (Nat.le_refl _) _) (Nat.le_refl _) _) (Nat.le_refl _) _) (Nat.le_refl _) _) (Nat.le_refl _) _⟩
  have h1:=HQA.out
  have h2:=CSc.out.hq
  rw[H3.out]
  exact(((((HOc.out.set (by omega) _).set (by omega) _).set (by omega) _).set (by omega) _).set (by omega) _).mono (by omega)
 ·have d0:(G != 0)=true:=by rw[bne_iff_ne];exact h0
  have H3:=hd0 h3
  clear h0 h3
  go_wp2_with fail
  refine bodyPost_ret (v:=.tuple #[.agg #[.int .u8 0,.int .u8 0,.int .u8 0,.string (bs []),.slice none 0 0],.int .i64 G]) (by simp[results,Tryz.results53,go_sem,z0,z1,z2,z3,z4];rfl) rfl ⟨.slice none 0 0,by rw[H3.out],by rw[H3.out];exact TlT.none _ _,below_set (below_set (below_set (below_set (below_set CSc.out.bel (Nat.le_refl _) _) (Nat.le_refl _) _) (Nat.le_refl _) _) (Nat.le_refl _) _) (Nat.le_refl _) _⟩
end Go.Proofs.YtlkdfofpnmpidaaGreat
