/- ZQ10 -/
import Derived.Test.YtlkdfofpnmpidaaGreatZQ09
set_option linter.unusedVariables false
set_option linter.unusedSimpArgs false
set_option maxRecDepth 100000
set_option maxHeartbeats 16000000
namespace Go.Proofs.YtlkdfofpnmpidaaGreat
open Go.RowKit
structure Ck where
 lv:Int
 rd:Bool
 iv:Int
 sq:Int
 me:Int
 md:List UInt8
def ckC (c:Ck):List Value:=[.int .u8 c.lv,.bool c.rd,.int .u8 c.iv,.int .u32 c.sq,.int .u16 c.me,.string (bs c.md)]
structure Hd where
 at':Int
 c:Ck
def hdC (x:Hd):List Value:=.int .i64 x.at'::ckC x.c
theorem hdC_len (x:Hd):(hdC x).length=7:=rfl
def okX (a:Ow8)(pre:List Int)(k:Int):Bool:=!decide (k<1)&&(!decide (8191<k)&&(!(k==a.mp)&&!pre.contains k))
def okL (a:Ow8):List Int→List Int→Bool
 | _,[]=>true
 | pre,k::r=>okX a pre k&&okL a (pre++[k]) r
def mayR (a:Ow8)(ks:List Int):Bool:=!decide (8<ks.length)&&(mayC a.lv a.iv a.mp a.md&&okL a [] ks)
theorem _root_.Go.RowKit.Below.drewN2 {B:Nat}{w w':World}{n:Nat}(h:Below B w w'):Below B w (w'.drewN n):=⟨h.os,h.tape,h.output,h.size,h.block⟩
theorem may18_any (a:Ow8)(ha:a.Ok)(sv:Value)(ks:List Int)(w:World)(hK:Rw 1 u1 w sv ks)(hkl:ks.length≤1000):Calls Tryz.prog 30 #[.agg (ow8A a),sv] w fun en w'=>en=.returned (.bool (mayR a ks))∧Below w.heap.size w w':=by
 obtain⟨sa,sc,rfl,hsh⟩:=hK.shape
 have HSH:=hd0 hsh
 obtain⟨K,hKK⟩:∃ K,mayC a.lv a.iv a.mp a.md=K:=⟨_,rfl⟩
 have MY:Hid (∀ w,Calls Tryz.prog 74 #[.agg #[.int .u8 a.lv,.bool false,.int .u8 a.iv,.int .u32 0,.int .u16 a.mp,.string (bs a.md)]] w fun en w'=>en=.returned (.bool K)∧Below w.heap.size w w'):=hd0 fun w=>by
  rw[←hKK];exact refMay13_any a.lv false a.iv 0 a.mp a.md w ha.md
 obtain⟨L,hL⟩:∃ L,ks.length=L:=⟨_,rfl⟩
 obtain⟨R,hR⟩:∃ R,mayR a ks=R:=⟨_,rfl⟩
 have HR:Hid (R=(!decide (8<L)&&(K&&okL a [] ks))):=hd0 (by rw[←hR,← hKK,← hL];rfl)
 have HL:=hd0 hL
 have hL1:L≤1000:=by omega
 rw[hL,hR]
 clear hK hsh hKK hL hR hkl ha
 unfold ow8A
 go_enter Tryz.func30,Tryz.ntmps30
 go_upto_region 1 with fail
 have g0:GB 97 (w.alloc (.cells #[.int .u8 a.lv,.int .u16 a.mp,.int .u8 a.iv,.string (bs a.md)] 97)) w.heap.size (ow8A a):=heap_alloc_new _ _
 have b0:Below w.heap.size w (w.alloc (.cells #[.int .u8 a.lv,.int .u16 a.mp,.int .u8 a.iv,.string (bs a.md)] 97)):=bA _
 obtain⟨w0,hw0⟩:∃ k,w.alloc (.cells #[.int .u8 a.lv,.int .u16 a.mp,.int .u8 a.iv,.string (bs a.md)] 97)=k:=⟨_,rfl⟩
 rw[hw0] at g0 b0 ⊢
 have B0:=hd0 b0
 have G0:=hd0 g0
 have c0:w0.cell? ⟨w.heap.size,0,none⟩=some (.int .u8 a.lv):=g0.c 0 _ rfl
 have c1:w0.cell? ⟨w.heap.size,1,none⟩=some (.int .u16 a.mp):=g0.c 1 _ rfl
 have c2:w0.cell? ⟨w.heap.size,2,none⟩=some (.int .u8 a.iv):=g0.c 2 _ rfl
 have c3:w0.cell? ⟨w.heap.size,3,none⟩=some (.string (bs a.md)):=g0.c 3 _ rfl
 clear hw0 g0 b0
 by_cases h8:8<L
 ·have d8:decide ((8:Int)<(L:Int))=true:=decide_eq_true (by omega)
  have HZ:Hid (R=false):=hd0 (by rw[HR.out,decide_eq_true h8];rfl)
  go_wp2
  go_ret
  exact⟨by rw[HZ.out];rfl,B0.out⟩
 have d8:decide ((8:Int)<(L:Int))=false:=decide_eq_false (by omega)
 have HR2:Hid (R=(K&&okL a [] ks)):=hd0 (by rw[HR.out,decide_eq_false h8];rfl)
 have hL8:L≤8:=by omega
 clear h8 HR
 cases K
 ·have HZ:Hid (R=false):=hd0 (by rw[HR2.out];rfl)
  go_wp2_with (go_at_call 74;with_reducible refine(MY.out _).mono ?_;rintro en w1 ⟨rfl,hb1⟩)
  go_ret
  exact⟨by rw[HZ.out];rfl,B0.out.trans (hb1.mono B0.out.size)⟩
 have HR3:Hid (R=okL a [] ks):=hd0 (by rw[HR2.out];rfl)
 clear HR2
 go_wp2_with (go_at_call 74;with_reducible refine(MY.out _).mono ?_;rintro en w1 ⟨rfl,hb1⟩)
 have B1:=hd0 (B0.out.trans (hb1.mono B0.out.size))
 have G1:=hd0 (G0.out.later hb1)
 clear hb1 B0 G0 c0 c1 c2 c3 MY
 go_loopw [5,6] (fun i _ wr=>∃ j:Nat,j≤L∧i=.int .i64 j∧Hid (Below w1.heap.size w1 wr)∧Hid (R=okL a (ks.take j) (ks.drop j))) (fun i _ _=>L-(intOf i).toNat)
 case atStart=>exact⟨0,Nat.zero_le _,rfl,hd0 (Below.refl _ _),hd0 (by rw[List.take_zero,List.drop_zero];exact HR3.out)⟩
 case round =>
  obtain⟨j,hj,rfl,HBW,HJ⟩:=hrel
  have hjb:(j:Int)<1000:=by omega
  by_cases hlt:j<L
  rotate_left
  ·obtain rfl:j=L:=by omega
   have dk:decide ((j:Int)<(j:Int))=false:=decide_eq_false (by omega)
   have HZ:Hid (R=true):=hd0 (by rw[HJ.out,List.drop_of_length_le (by rw[HL.out];exact Nat.le_refl _)];rfl)
   clear hlt hj
   go_wp2
   go_ret
   exact⟨by rw[HZ.out];rfl,B1.out.trans (HBW.out.mono B1.out.size)⟩
  have dk:decide ((j:Int)<(L:Int))=true:=decide_eq_true (by omega)
  obtain⟨b,off,rfl,hcc⟩:=HSH.out.resolve_left (by intro h;have:=HL.out;rw[h] at this;simp at this;omega)
  have cell:Hid (∀ t (ht:t<ks.length) W,Below w1.heap.size w1 W→W.cell? ⟨b,off+t,none⟩=some (.int .u16 ks[t])):=hd0 fun t ht W hW=>by
   have h1:w.cell? ⟨b,off+t,none⟩=some (.int .u16 ks[t]):=by
    have:=hcc t ht 0 (by decide)
    simp only[Nat.mul_one,Nat.add_zero] at this
    rw[this];rfl
   exact((B1.out.trans (hW.mono B1.out.size)).cell (World.block_lt_of_cell? w _ h1)).trans h1
  have hjl:j<ks.length:=by rw[HL.out];exact hlt
  obtain⟨x,hx⟩:∃ x,ks[j]=x:=⟨_,rfl⟩
  have HXE:Hid (∀ t (ht:t<ks.length),t=j→ks[t]=x):=hd0 (by intro t ht e;subst e;exact hx)
  have cx:wr.cell? ⟨b,off+j,none⟩=some (.int .u16 x):=by rw[←hx];exact cell.out j hjl wr HBW.out
  have cm:wr.cell? ⟨w.heap.size,1,none⟩=some (.int .u16 a.mp):=(G1.out.later HBW.out).c 1 _ rfl
  have HJ2:Hid (R=(okX a (ks.take j) x&&okL a (ks.take (j+1)) (ks.drop (j+1)))):=hd0 (by
   have e:ks.take (j+1)=ks.take j++[x]:=by rw[List.take_add_one,List.getElem?_eq_getElem hjl,hx];rfl
   rw[HJ.out,List.drop_eq_getElem_cons hjl,hx,e];rfl)
  have HJL:=hd0 hjl
  clear hcc hx HJ hjl
  by_cases h1:x<1
  ·have e1:decide (x<1)=true:=decide_eq_true h1
   have HZ:Hid (R=false):=hd0 (by rw[HJ2.out];unfold okX;rw[e1];rfl)
   clear h1
   go_upto_region 6 with fail
   go_quiet (fail)
   go_wp2
   go_ret
   exact⟨by rw[HZ.out];rfl,(B1.out.trans (HBW.out.mono B1.out.size)).drewN2⟩
  have e1:decide (x<1)=false:=decide_eq_false h1
  by_cases h2:8191<x
  ·have e2:decide (8191<x)=true:=decide_eq_true h2
   have HZ:Hid (R=false):=hd0 (by rw[HJ2.out];unfold okX;rw[e1,e2];rfl)
   clear h1 h2
   go_upto_region 6 with fail
   go_quiet (fail)
   go_wp2
   go_ret
   exact⟨by rw[HZ.out];rfl,(B1.out.trans (HBW.out.mono B1.out.size)).drewN2⟩
  have e2:decide (8191<x)=false:=decide_eq_false h2
  by_cases h3:x=a.mp
  ·have e3:(x==a.mp)=true:=by rw[h3];simp
   have HZ:Hid (R=false):=hd0 (by rw[HJ2.out];unfold okX;rw[e1,e2,e3];rfl)
   clear h1 h2 h3
   go_upto_region 6 with fail
   go_quiet (fail)
   go_wp2
   go_ret
   exact⟨by rw[HZ.out];rfl,(B1.out.trans (HBW.out.mono B1.out.size)).drewN2⟩
  have e3:(x==a.mp)=false:=by rw[beq_eq_false_iff_ne];exact h3
  have HJ3:Hid (R=(!(ks.take j).contains x&&okL a (ks.take (j+1)) (ks.drop (j+1)))):=hd0 (by rw[HJ2.out];unfold okX;rw[e1,e2,e3];rfl)
  clear h1 h2 h3 HJ2
  go_upto_region 6 with fail
  go_quiet (fail)
  go_wp2_with fail
  have cm2:True:=trivial
  clear cx cm e1 e2 e3
  go_loopw [6] (fun k wx=>∃ t:Nat,t≤j∧k=.int .i64 t∧Hid (Below w1.heap.size w1 wx)∧Hid ((ks.take t).contains x=false)) (fun k _=>j-(intOf k).toNat)
  case atStart=>exact⟨0,Nat.zero_le _,rfl,hd0 HBW.out.drewN2,hd0 (by simp)⟩
  case round =>
   obtain⟨t,ht,rfl,HBX,HT⟩:=hrel
   have htb:(t:Int)<1000:=by omega
   by_cases hlt2:t<j
   rotate_left
   ·obtain rfl:t=j:=by omega
    have dk2:decide ((t:Int)<(t:Int))=false:=decide_eq_false (by omega)
    have HZ:Hid (R=okL a (ks.take (t+1)) (ks.drop (t+1))):=hd0 (by rw[HJ3.out,HT.out];rfl)
    clear hlt2 ht HT HJ3
    go_wp2
    exact⟨⟨t+1,by omega,by go_num,HBX,HZ⟩,by simp[intOf];omega⟩
   ·have dk2:decide ((t:Int)<(j:Int))=true:=decide_eq_true (by omega)
    have htl:t<ks.length:=by have:=HL.out;omega
    obtain⟨y,hy⟩:∃ y,ks[t]=y:=⟨_,rfl⟩
    have cy:wr.cell? ⟨b,off+t,none⟩=some (.int .u16 y):=by rw[←hy];exact cell.out t htl wr HBX.out
    have cx2:wr.cell? ⟨b,off+j,none⟩=some (.int .u16 x):=by
     have hjl:j<ks.length:=by have:=HL.out;omega
     rw[←HXE.out j hjl rfl];exact cell.out j hjl wr HBX.out
    have HTE:Hid (ks.take (t+1)=ks.take t++[y]):=hd0 (by rw[List.take_add_one,List.getElem?_eq_getElem htl,hy];rfl)
    clear hy htl
    by_cases he:y=x
    ·have e1:(y==x)=true:=by rw[he];simp
     have HZ:Hid (R=false):=hd0 (by
      have h1:(ks.take j).contains x=true:=by
       have h2:x∈ks.take (t+1):=by rw[HTE.out,he];simp
       exact List.contains_iff_mem.2 (List.take_subset_take_left ks (by omega) h2)
      rw[HJ3.out,h1];rfl)
     clear he
     go_upto_region 11 with fail
     go_quiet (fail)
     go_wp2
     go_ret
     exact⟨by rw[HZ.out];rfl,(B1.out.trans (HBX.out.mono B1.out.size)).drewN2⟩
    ·have e1:(y==x)=false:=by rw[beq_eq_false_iff_ne];exact he
     have HZ:Hid ((ks.take (t+1)).contains x=false):=hd0 (by
      rw[HTE.out,List.contains_append,HT.out]
      simp
      exact fun h=>he h.symm)
     clear he
     go_upto_region 11 with fail
     go_quiet (fail)
     go_wp2
     exact⟨⟨t+1,by omega,by go_num,hd0 HBX.out.drewN2,HZ⟩,by simp[intOf];omega⟩
def kindC (a:Ow8)(ks:List Int)(c:Ck):Int :=
 if refC a c.lv c.iv c.me c.md=true then 0 else if c.lv<a.lv∨c.md≠a.md then 3 else if c.me∈ks∧c.iv=a.iv then 1 else 2
def ckA (c:Ck):Array Value:=#[.int .u8 c.lv,.bool c.rd,.int .u8 c.iv,.int .u32 c.sq,.int .u16 c.me,.string (bs c.md)]
theorem kindR_any (a:Ow8)(c:Ck)(hmd:c.md.length≤1000)(sv:Value)(ks:List Int)(w:World)(hK:Rw 1 u1 w sv ks)(hkl:ks.length≤1000):Calls Tryz.prog 131 #[.agg (ow8A a),sv,.agg (ckA c)] w fun en w'=>en=.returned (.int .i64 (kindC a ks c))∧Below w.heap.size w w':=by
 obtain⟨sa,sc,rfl,hsh⟩:=hK.shape
 have HSH:=hd0 hsh
 obtain⟨K,hKK⟩:∃ K,mayC c.lv c.iv c.me c.md=K:=⟨_,rfl⟩
 have MY:Hid (∀ w,Calls Tryz.prog 74 #[.agg (ckA c)] w fun en w'=>en=.returned (.bool K)∧Below w.heap.size w w'):=hd0 fun w=>by
  rw[←hKK];exact refMay13_any c.lv c.rd c.iv c.sq c.me c.md w hmd
 obtain⟨L,hL⟩:∃ L,ks.length=L:=⟨_,rfl⟩
 obtain⟨R,hR⟩:∃ R,kindC a ks c=R:=⟨_,rfl⟩
 have HR:Hid (R=if (!K||decide (a.lv<c.lv))=true then 0 else if c.lv<a.lv∨c.md≠a.md then 3 else if c.me∈ks∧c.iv=a.iv then 1 else 2):=hd0 (by rw[←hR,← hKK];rfl)
 have HL:=hd0 hL
 have hL1:L≤1000:=by omega
 rw[hL,hR]
 clear hK hsh hKK hL hR hkl hmd
 unfold ow8A ckA at *
 go_enter Tryz.func131,Tryz.ntmps131
 go_upto_region 1 with fail
 have g0:GB 97 (w.alloc (.cells #[.int .u8 a.lv,.int .u16 a.mp,.int .u8 a.iv,.string (bs a.md)] 97)) w.heap.size (ow8A a):=heap_alloc_new _ _
 have b1:Below (w.alloc (.cells #[.int .u8 a.lv,.int .u16 a.mp,.int .u8 a.iv,.string (bs a.md)] 97)).heap.size (w.alloc (.cells #[.int .u8 a.lv,.int .u16 a.mp,.int .u8 a.iv,.string (bs a.md)] 97)) ((w.alloc (.cells #[.int .u8 a.lv,.int .u16 a.mp,.int .u8 a.iv,.string (bs a.md)] 97)).alloc (.cells #[.int .u8 c.lv,.bool c.rd,.int .u8 c.iv,.int .u32 c.sq,.int .u16 c.me,.string (bs c.md)] 118)):=bA _
 have g1:=g0.later b1
 have g2:CB 118 ((w.alloc (.cells #[.int .u8 a.lv,.int .u16 a.mp,.int .u8 a.iv,.string (bs a.md)] 97)).alloc (.cells #[.int .u8 c.lv,.bool c.rd,.int .u8 c.iv,.int .u32 c.sq,.int .u16 c.me,.string (bs c.md)] 118)) (w.heap.size+1) c.lv c.rd c.iv c.sq c.me c.md:=by
  have g:=CB.new 118 (w.alloc (.cells #[.int .u8 a.lv,.int .u16 a.mp,.int .u8 a.iv,.string (bs a.md)] 97)) c.lv c.rd c.iv c.sq c.me c.md
  rw[World.size_alloc] at g;exact g
 have b2:Below w.heap.size w ((w.alloc (.cells #[.int .u8 a.lv,.int .u16 a.mp,.int .u8 a.iv,.string (bs a.md)] 97)).alloc (.cells #[.int .u8 c.lv,.bool c.rd,.int .u8 c.iv,.int .u32 c.sq,.int .u16 c.me,.string (bs c.md)] 118)):=(bA _).alloc (by simp) _
 obtain⟨w0,hw0⟩:∃ k,(w.alloc (.cells #[.int .u8 a.lv,.int .u16 a.mp,.int .u8 a.iv,.string (bs a.md)] 97)).alloc (.cells #[.int .u8 c.lv,.bool c.rd,.int .u8 c.iv,.int .u32 c.sq,.int .u16 c.me,.string (bs c.md)] 118)=k:=⟨_,rfl⟩
 rw[hw0] at g1 g2 b2 ⊢
 have HS:=hd0 (And.intro g1 (And.intro g2 b2))
 clear hw0 g0 b1 g1 g2 b2
 have c0:=HS.out.2.1.c0
 have c1:=HS.out.2.1.c1
 have c2:=HS.out.2.1.c2
 have c3:=HS.out.2.1.c3
 have c4:=HS.out.2.1.c4
 have c5:=HS.out.2.1.c5
 go_wp2_with fail
 with_reducible refine(MY.out _).mono ?_
 rintro en w1 ⟨rfl,hb1⟩
 have S:=hd0 (And.intro (HS.out.1.later hb1) (And.intro (HS.out.2.1.later hb1) (HS.out.2.2.trans (hb1.mono HS.out.2.2.size))))
 clear hb1 HS c0 c1 c2 c3 c4 c5 MY
 have c0:=S.out.2.1.c0
 have c2:=S.out.2.1.c2
 have c4:=S.out.2.1.c4
 have c5:=S.out.2.1.c5
 have k0:w1.cell? ⟨w.heap.size,0,none⟩=some (.int .u8 a.lv):=S.out.1.c 0 _ rfl
 have k2:w1.cell? ⟨w.heap.size,2,none⟩=some (.int .u8 a.iv):=S.out.1.c 2 _ rfl
 have k3:w1.cell? ⟨w.heap.size,3,none⟩=some (.string (bs a.md)):=S.out.1.c 3 _ rfl
 cases K
 ·have HZ:Hid (R=0):=hd0 (by rw[HR.out];rfl)
  go_wp2
  go_ret
  exact⟨by rw[HZ.out];rfl,S.out.2.2⟩
 by_cases h1:a.lv<c.lv
 ·have d1:decide (a.lv<c.lv)=true:=decide_eq_true h1
  have HZ:Hid (R=0):=hd0 (by rw[HR.out,d1];rfl)
  clear h1
  go_wp2
  go_ret
  exact⟨by rw[HZ.out];rfl,S.out.2.2⟩
 have d1:decide (a.lv<c.lv)=false:=decide_eq_false h1
 have HR2:Hid (R=if c.lv<a.lv∨c.md≠a.md then 3 else if c.me∈ks∧c.iv=a.iv then 1 else 2):=hd0 (by rw[HR.out,d1];rfl)
 clear HR
 by_cases h2:c.lv<a.lv
 ·have d2:decide (c.lv<a.lv)=true:=decide_eq_true h2
  have HZ:Hid (R=3):=hd0 (by rw[HR2.out,if_pos (.inl h2)])
  clear h1 h2
  go_wp2
  go_ret
  exact⟨by rw[HZ.out];rfl,S.out.2.2⟩
 have d2:decide (c.lv<a.lv)=false:=decide_eq_false h2
 by_cases h3:c.md=a.md
 rotate_left
 ·have d3:((bs c.md).toList==(bs a.md).toList)=false:=by rw[bs_tl,bs_tl,beq_eq_false_iff_ne];exact h3
  have HZ:Hid (R=3):=hd0 (by rw[HR2.out,if_pos (.inr h3)])
  clear h1 h2 h3
  go_wp2
  go_ret
  exact⟨by rw[HZ.out];rfl,S.out.2.2⟩
 have d3:((bs c.md).toList==(bs a.md).toList)=true:=by rw[h3];simp
 have HR3:Hid (R=if c.me∈ks∧c.iv=a.iv then 1 else 2):=hd0 (by rw[HR2.out,if_neg];rintro (h|h);exact h2 h;exact h h3)
 clear h1 h2 h3 HR2
 go_wp2_with fail
 clear c0 c2 c4 c5 k0 k2 k3 d1 d2 d3
 go_loopw [7] (fun i wr=>∃ j:Nat,j≤L∧i=.int .i64 j∧Hid (Below w1.heap.size w1 wr)∧Hid (c.me∈ks.take j→c.iv≠a.iv)) (fun i _=>L-(intOf i).toNat)
 case atStart=>exact⟨0,Nat.zero_le _,rfl,hd0 (Below.refl _ _),hd0 (by simp)⟩
 case round =>
  obtain⟨j,hj,rfl,HBW,HJ⟩:=hrel
  have hjb:(j:Int)<1001:=by omega
  by_cases hlt:j<L
  rotate_left
  ·obtain rfl:j=L:=by omega
   have dk:decide ((j:Int)<(j:Int))=false:=decide_eq_false (by omega)
   have HZ:Hid (R=2):=hd0 (by
    rw[HR3.out,if_neg]
    rintro ⟨h1,h2⟩
    exact HJ.out (by rw[List.take_of_length_le (by rw[HL.out];exact Nat.le_refl _)];exact h1) h2)
   clear hlt hj
   go_wp2
   go_ret
   exact⟨by rw[HZ.out];rfl,S.out.2.2.trans (HBW.out.mono S.out.2.2.size)⟩
  have dk:decide ((j:Int)<(L:Int))=true:=decide_eq_true (by omega)
  obtain⟨b,off,rfl,hcc⟩:=HSH.out.resolve_left (by intro h;have:=HL.out;rw[h] at this;simp at this;omega)
  have hjl:j<ks.length:=by rw[HL.out];exact hlt
  obtain⟨x,hx⟩:∃ x,ks[j]=x:=⟨_,rfl⟩
  have hxc:w.cell? ⟨b,off+j,none⟩=some (.int .u16 x):=by
   have:=hcc j hjl 0 (by decide)
   simp only[Nat.mul_one,Nat.add_zero] at this
   rw[this,← hx];rfl
  have cx:wr.cell? ⟨b,off+j,none⟩=some (.int .u16 x):=((S.out.2.2.trans (HBW.out.mono S.out.2.2.size)).cell (World.block_lt_of_cell? w _ hxc)).trans hxc
  have c2:=(S.out.2.1.later HBW.out).c2
  have c4:=(S.out.2.1.later HBW.out).c4
  have k2:wr.cell? ⟨w.heap.size,2,none⟩=some (.int .u8 a.iv):=(S.out.1.later HBW.out).c 2 _ rfl
  have HTE:Hid (ks.take (j+1)=ks.take j++[x]):=hd0 (by rw[List.take_add_one,List.getElem?_eq_getElem hjl,hx];rfl)
  have HIN:Hid (x∈ks):=hd0 (by rw[←hx];exact List.getElem_mem _)
  clear hcc hx hxc hjl
  by_cases h1:x=c.me
  ·have e1:(x==c.me)=true:=by rw[h1];simp
   by_cases h2:c.iv=a.iv
   ·have e2:(c.iv==a.iv)=true:=by rw[h2];simp
    have HZ:Hid (R=1):=hd0 (by rw[HR3.out,if_pos ⟨by rw[←h1];exact HIN.out,h2⟩])
    clear h1 h2
    go_upto_region 8 with fail
    go_quiet (fail)
    go_wp2
    go_ret
    exact⟨by rw[HZ.out];rfl,(S.out.2.2.trans (HBW.out.mono S.out.2.2.size)).drewN2⟩
   ·have e2:(c.iv==a.iv)=false:=by rw[beq_eq_false_iff_ne];exact h2
    have HZ:Hid (c.me∈ks.take (j+1)→c.iv≠a.iv):=hd0 (fun _=>h2)
    clear h1 h2
    go_upto_region 8 with fail
    go_quiet (fail)
    go_wp2
    exact⟨⟨j+1,by omega,by go_num,hd0 HBW.out.drewN2,HZ⟩,by simp[intOf];omega⟩
  ·have e1:(x==c.me)=false:=by rw[beq_eq_false_iff_ne];exact h1
   have HZ:Hid (c.me∈ks.take (j+1)→c.iv≠a.iv):=hd0 (fun h=>by
    rw[HTE.out,List.mem_append] at h
    rcases h with h|h
    ·exact HJ.out h
    ·exact absurd (List.mem_singleton.1 h).symm h1)
   clear h1
   go_upto_region 8 with fail
   go_quiet (fail)
   go_wp2
   exact⟨⟨j+1,by omega,by go_num,hd0 HBW.out.drewN2,HZ⟩,by simp[intOf];omega⟩
def skipC (a:Ow8)(ks:List Int)(kd me:Int)(h:Hd):Bool:=(kindC a ks h.c != kd)||(kd==1&&h.c.me != me)
def stepC (a:Ow8)(ks:List Int)(kd me now:Int)(m:Int)(h:Hd):Int :=
 if skipC a ks kd me h=true then m else if m<lastC h.c.iv-(now-h.at') then lastC h.c.iv-(now-h.at') else m
def mostC (a:Ow8)(ks:List Int)(l:List Hd)(kd me now:Int):Int:=l.foldl (stepC a ks kd me now) 0
def leftC (a:Ow8)(ks:List Int)(l:List Hd)(kd me now:Int):Int :=
 if kd=1∧mostC a ks l kd me now<lastC a.iv-now then lastC a.iv-now else mostC a ks l kd me now
structure Hd.Ok (h:Hd):Prop where
 a:0≤h.at'∧h.at'≤1000
 m:h.c.md.length≤1000
 e:0≤h.c.me∧h.c.me<65536
theorem lastC_b (n:Int):0≤lastC n∧lastC n≤35:=by unfold lastC;split <;> (try split) <;> omega
theorem left18_any (a:Ow8)(sv lv:Value)(ks:List Int)(l:List Hd)(kd me now:Int)(w:World)(hK:Rw 1 u1 w sv ks)(hkl:ks.length≤1000)(hL:Rw 7 hdC w lv l)(hl:l.length≤1000)(hok:∀ h∈l,h.Ok)(hn:0≤now∧now≤1000) :
  Calls Tryz.prog 116 #[.agg (ow8A a),sv,lv,.int .i64 kd,.int .u16 me,.int .i64 now] w fun en w'=>en=.returned (.int .i64 (leftC a ks l kd me now))∧Below w.heap.size w w':=by
 obtain⟨la,lc,rfl,hsh⟩:=hL.shape
 have HSH:=hd0 hsh
 have HK:=hd0 hK
 have HOK:=hd0 hok
 have HKL:=hd0 hkl
 obtain⟨R,hR⟩:∃ R,leftC a ks l kd me now=R:=⟨_,rfl⟩
 have HR:=hd0 hR
 obtain⟨L,hLL⟩:∃ L,l.length=L:=⟨_,rfl⟩
 have HL:=hd0 hLL
 have hL1:L≤1000:=by omega
 obtain⟨NA,hNA⟩:∃ N,lastC a.iv=N:=⟨_,rfl⟩
 have hNAb:0≤NA∧NA≤35:=by rw[←hNA];exact lastC_b _
 have LAS:Hid (∀ w,Calls Tryz.prog 136 #[.int .u8 a.iv] w fun en w'=>en=.returned (.int .i64 NA)∧w'=w):=hd0 fun w=>by rw[←hNA];exact refLasts_any a.iv w
 have HNA:=hd0 hNA
 rw[hLL,hR]
 clear hK hL hsh hR hkl hok hl hLL hNA
 unfold ow8A
 go_enter Tryz.func116,Tryz.ntmps116
 go_upto_region 1 with fail
 have g0:GB 97 (w.alloc (.cells #[.int .u8 a.lv,.int .u16 a.mp,.int .u8 a.iv,.string (bs a.md)] 97)) w.heap.size (ow8A a):=heap_alloc_new _ _
 have b0:Below w.heap.size w (w.alloc (.cells #[.int .u8 a.lv,.int .u16 a.mp,.int .u8 a.iv,.string (bs a.md)] 97)):=bA _
 obtain⟨w0,hw0⟩:∃ k,w.alloc (.cells #[.int .u8 a.lv,.int .u16 a.mp,.int .u8 a.iv,.string (bs a.md)] 97)=k:=⟨_,rfl⟩
 rw[hw0] at g0 b0 ⊢
 have B0:=hd0 b0
 have G0:=hd0 g0
 clear hw0 g0 b0
 go_wp2_with fail
 go_loopw [13,14,15] (fun m i _ wr=>∃ (j:Nat) (M:Int),j≤L∧i=.int .i64 j∧m=.int .i64 M∧(0≤M∧M≤2000)∧Hid (mostC a ks l kd me now=(l.drop j).foldl (stepC a ks kd me now) M)∧Hid (Below w0.heap.size w0 wr)) (fun _ i _ _=>L-(intOf i).toNat)
 case atStart=>exact⟨0,0,Nat.zero_le _,rfl,rfl,by omega,hd0 (by rw[List.drop_zero];rfl),hd0 (Below.refl _ _)⟩
 case round =>
  obtain⟨j,M,hj,rfl,rfl,hM,HJ,HBW⟩:=hrel
  have hjb:(j:Int)<1001:=by omega
  by_cases hlt:j<L
  rotate_left
  ·obtain rfl:j=L:=by omega
   have dk:decide ((j:Int)<(j:Int))=false:=decide_eq_false (by omega)
   have HM2:Hid (mostC a ks l kd me now=M):=hd0 (by rw[HJ.out,List.drop_of_length_le (by rw[HL.out];exact Nat.le_refl _)];rfl)
   have k2:wr.cell? ⟨w.heap.size,2,none⟩=some (.int .u8 a.iv):=(G0.out.later HBW.out).c 2 _ rfl
   have HR2:Hid (R=if kd=1∧M<NA-now then NA-now else M):=hd0 (by rw[←HR.out];unfold leftC;rw[HM2.out,HNA.out])
   have HB:=hd0 (B0.out.trans (HBW.out.mono B0.out.size))
   clear hlt hj HM2 HR HJ
   by_cases h1:kd=1
   ·have e1:(kd==1)=true:=by rw[h1];rfl
    by_cases h2:M<NA-now
    ·have e2:decide (M<NA-now)=true:=decide_eq_true h2
     have HZ:Hid (R=NA-now):=hd0 (by rw[HR2.out,if_pos ⟨h1,h2⟩])
     clear h2
     go_wp2_with (go_at_call 136;with_reducible refine(LAS.out _).mono ?_;rintro en w' ⟨rfl,rfl⟩)
     go_ret
     exact⟨by rw[HZ.out];rfl,HB.out⟩
    ·have e2:decide (M<NA-now)=false:=decide_eq_false h2
     have HZ:Hid (R=M):=hd0 (by rw[HR2.out,if_neg];exact fun h=>h2 h.2)
     clear h2
     go_wp2_with (go_at_call 136;with_reducible refine(LAS.out _).mono ?_;rintro en w' ⟨rfl,rfl⟩)
     go_ret
     exact⟨by rw[HZ.out];rfl,HB.out⟩
   ·have e1:(kd==1)=false:=by rw[beq_eq_false_iff_ne];exact h1
    have HZ:Hid (R=M):=hd0 (by rw[HR2.out,if_neg];exact fun h=>h1 h.1)
    clear h1
    go_wp2
    go_ret
    exact⟨by rw[HZ.out];rfl,HB.out⟩
  have dk:decide ((j:Int)<(L:Int))=true:=decide_eq_true (by omega)
  obtain⟨b,off,rfl,hcc⟩:=HSH.out.resolve_left (by intro h;have:=HL.out;rw[h] at this;simp at this;omega)
  have hjl:j<l.length:=by rw[HL.out];exact hlt
  obtain⟨x,hx⟩:∃ x,l[j]=x:=⟨_,rfl⟩
  have hxo:x.Ok:=by rw[←hx];exact HOK.out _ (List.getElem_mem _)
  have HXO:=hd0 hxo
  have cellx:Hid (∀ i v,i<7→(hdC x)[i]?=some v→∀ W,Below w0.heap.size w0 W→W.cell? ⟨b,off+j*7+i,none⟩=some v):=hd0 fun i v hi hv W hW=>by
   have h1:w.cell? ⟨b,off+j*7+i,none⟩=some v:=by rw[hcc j hjl i hi,hx];exact hv
   exact((B0.out.trans (hW.mono B0.out.size)).cell (World.block_lt_of_cell? w _ h1)).trans h1
  have HJ2:Hid (mostC a ks l kd me now=(l.drop (j+1)).foldl (stepC a ks kd me now) (stepC a ks kd me now M x)):=hd0 (by
   rw[HJ.out,List.drop_eq_getElem_cons hjl,hx];rfl)
  have LX:Hid (∀ (kk:Later wr),Below w0.heap.size w0 kk.out):=hd0 fun kk=>HBW.out.trans (kk.h.mono HBW.out.size)
  clear hcc hjl hx HJ hxo
  obtain⟨SK,hSK⟩:∃ z,skipC a ks kd me x=z:=⟨_,rfl⟩
  have HSK:=hd0 hSK
  clear hSK
  go_upto_region 5 with fail
  go_cut [45] (fun s45 wx=>s45=.bool SK∧Hid (Below w0.heap.size w0 wx))
  case first =>
   obtain⟨KD,hKD⟩:∃ z,kindC a ks x.c=z:=⟨_,rfl⟩
   have MB:∀ kk:Later wr,Calls Tryz.prog 131 #[.agg #[.int .u8 a.lv,.int .u16 a.mp,.int .u8 a.iv,.string (bs a.md)],sv,.agg #[.int .u8 x.c.lv,.bool x.c.rd,.int .u8 x.c.iv,.int .u32 x.c.sq,.int .u16 x.c.me,.string (bs x.c.md)]] kk.out fun e w'=>e=.returned (.int .i64 KD)∧Below kk.out.heap.size kk.out w':=fun kk=>by
    rw[←hKD]
    exact kindR_any a x.c HXO.out.m sv ks kk.out (HK.out.later u1_len (B0.out.trans ((LX.out kk).mono B0.out.size))) HKL.out
   have k0:∀ kk:Later wr,kk.out.cell? ⟨w.heap.size,0,none⟩=some (.int .u8 a.lv):=fun kk=>(G0.out.later (LX.out kk)).c 0 _ rfl
   have k1:∀ kk:Later wr,kk.out.cell? ⟨w.heap.size,1,none⟩=some (.int .u16 a.mp):=fun kk=>(G0.out.later (LX.out kk)).c 1 _ rfl
   have k2:∀ kk:Later wr,kk.out.cell? ⟨w.heap.size,2,none⟩=some (.int .u8 a.iv):=fun kk=>(G0.out.later (LX.out kk)).c 2 _ rfl
   have k3:∀ kk:Later wr,kk.out.cell? ⟨w.heap.size,3,none⟩=some (.string (bs a.md)):=fun kk=>(G0.out.later (LX.out kk)).c 3 _ rfl
   have x1:∀ kk:Later wr,kk.out.cell? ⟨b,off+j*7+1,none⟩=some (.int .u8 x.c.lv):=fun kk=>cellx.out 1 _ (by decide) rfl _ (LX.out kk)
   have x2:∀ kk:Later wr,kk.out.cell? ⟨b,off+j*7+2,none⟩=some (.bool x.c.rd):=fun kk=>cellx.out 2 _ (by decide) rfl _ (LX.out kk)
   have x3:∀ kk:Later wr,kk.out.cell? ⟨b,off+j*7+3,none⟩=some (.int .u8 x.c.iv):=fun kk=>cellx.out 3 _ (by decide) rfl _ (LX.out kk)
   have x4:∀ kk:Later wr,kk.out.cell? ⟨b,off+j*7+4,none⟩=some (.int .u32 x.c.sq):=fun kk=>cellx.out 4 _ (by decide) rfl _ (LX.out kk)
   have x5:∀ kk:Later wr,kk.out.cell? ⟨b,off+j*7+5,none⟩=some (.int .u16 x.c.me):=fun kk=>cellx.out 5 _ (by decide) rfl _ (LX.out kk)
   have x6:∀ kk:Later wr,kk.out.cell? ⟨b,off+j*7+6,none⟩=some (.string (bs x.c.md)):=fun kk=>cellx.out 6 _ (by decide) rfl _ (LX.out kk)
   have hS:SK=((KD != kd)||(kd==1&&x.c.me != me)):=by rw[←HSK.out,← hKD];rfl
   clear hKD
   obtain⟨E1,hE1⟩:∃ z,(KD != kd)=z:=⟨_,rfl⟩
   obtain⟨E2,hE2⟩:∃ z,(kd==1)=z:=⟨_,rfl⟩
   obtain⟨E3,hE3⟩:∃ z,(x.c.me != me)=z:=⟨_,rfl⟩
   rw[hE1,hE2,hE3] at hS
   have HS:=hd0 hS
   clear hS
   cases E1 <;> cases E2
   all_goals
    refine wp_region_later (by kernel_rfl) (by kernel_rfl) ?_
    repeat (go_big_quiet_step (first|(go_at_call 131;exact Calls.later (MB _))))
    refine wpQuiet_nil ?_
    rintro _ ⟨kk,rfl⟩
    go_wp2_with fail
    go_meet
    exact⟨by rw[HS.out];rfl,hd0 (LX.out kk)⟩
  case rest =>
   obtain⟨rfl,HB5⟩:=hcut
   cases SK
   rotate_left
   ·have HJ3:Hid (mostC a ks l kd me now=(l.drop (j+1)).foldl (stepC a ks kd me now) M):=hd0 (by rw[HJ2.out];unfold stepC;rw[HSK.out];rfl)
    go_wp2
    exact⟨⟨j+1,M,by omega,by go_num,rfl,hM,HJ3,HB5⟩,by simp[intOf];omega⟩
   ·obtain⟨NX,hNX⟩:∃ z,lastC x.c.iv=z:=⟨_,rfl⟩
    have hNXb:0≤NX∧NX≤35:=by rw[←hNX];exact lastC_b _
    have HJ3:Hid (mostC a ks l kd me now=(l.drop (j+1)).foldl (stepC a ks kd me now) (if M<NX-(now-x.at') then NX-(now-x.at') else M)):=hd0 (by rw[HJ2.out];unfold stepC;rw[HSK.out,hNX];rfl)
    have LAX:Hid (∀ w,Calls Tryz.prog 136 #[.int .u8 x.c.iv] w fun en w'=>en=.returned (.int .i64 NX)∧w'=w):=hd0 fun w=>by rw[←hNX];exact refLasts_any x.c.iv w
    have hxa:=HXO.out.a
    clear hNX HJ2 HSK
    go_upto_region 6 with fail
    go_cut [15] (fun s15 wx=>s15=.int .i64 (NX-(now-x.at'))∧Hid (Below w0.heap.size w0 wx))
    case first =>
     have LX2:Hid (∀ (kk:Later wc),Below w0.heap.size w0 kk.out):=hd0 fun kk=>HB5.out.trans (kk.h.mono HB5.out.size)
     have MB:∀ kk:Later wc,Calls Tryz.prog 136 #[.int .u8 x.c.iv] kk.out fun e w'=>e=.returned (.int .i64 NX)∧kk.out=w':=fun kk=>(LAX.out _).mono fun _ _ h=>⟨h.1,h.2.symm⟩
     have x0:∀ kk:Later wc,kk.out.cell? ⟨b,off+j*7,none⟩=some (.int .i64 x.at'):=fun kk=>cellx.out 0 _ (by decide) rfl _ (LX2.out kk)
     have x3:∀ kk:Later wc,kk.out.cell? ⟨b,off+j*7+3,none⟩=some (.int .u8 x.c.iv):=fun kk=>cellx.out 3 _ (by decide) rfl _ (LX2.out kk)
     refine wp_region_later (by kernel_rfl) (by kernel_rfl) ?_
     repeat (go_big_quiet_step (first|(go_at_call 136;exact Calls.later_same (MB _))))
     refine wpQuiet_nil ?_
     rintro _ ⟨kk,rfl⟩
     go_wp2_with fail
     go_meet
     exact⟨by first|rfl|go_num,hd0 (LX2.out kk)⟩
    case rest =>
     obtain⟨rfl,HB6⟩:=hcut
     obtain⟨Z,hZ⟩:∃ z,NX-(now-x.at')=z:=⟨_,rfl⟩
     have hZb:Z≤2000:=by omega
     rw[hZ] at HJ3 ⊢
     clear hZ
     by_cases hm:M<Z
     ·have e1:decide (M<Z)=true:=decide_eq_true hm
      have HJ4:Hid (mostC a ks l kd me now=(l.drop (j+1)).foldl (stepC a ks kd me now) Z):=hd0 (by rw[HJ3.out,if_pos hm])
      go_wp2
      exact⟨⟨j+1,Z,by omega,by go_num,rfl,by omega,HJ4,HB6⟩,by simp[intOf];omega⟩
     ·have e1:decide (M<Z)=false:=decide_eq_false hm
      have HJ4:Hid (mostC a ks l kd me now=(l.drop (j+1)).foldl (stepC a ks kd me now) M):=hd0 (by rw[HJ3.out,if_neg hm])
      go_wp2
      exact⟨⟨j+1,M,by omega,by go_num,rfl,hM,HJ4,HB6⟩,by simp[intOf];omega⟩
def hitC (a:Ow8)(ks:List Int)(me:Int)(h:Hd):Bool:=(kindC a ks h.c==1)&&(h.c.me==me)
def rdiC (a:Ow8)(ks:List Int)(l:List Hd)(me:Int):Bool:=match l.reverse.find? (hitC a ks me) with
 | some h=>h.c.rd
 | none=>false
theorem rdiC_snoc (a:Ow8)(ks:List Int)(l:List Hd)(me:Int)(h:Hd):rdiC a ks (l++[h]) me=if hitC a ks me h=true then h.c.rd else rdiC a ks l me:=by
 unfold rdiC
 rw[List.reverse_append,List.reverse_singleton,List.singleton_append,List.find?_cons]
 cases hitC a ks me h <;> rfl
theorem rdi_any (a:Ow8)(sv lv:Value)(ks:List Int)(l:List Hd)(me:Int)(w:World)(hK:Rw 1 u1 w sv ks)(hkl:ks.length≤1000)(hL:Rw 7 hdC w lv l)(hl:l.length≤1000)(hok:∀ h∈l,h.Ok) :
  Calls Tryz.prog 105 #[.agg (ow8A a),sv,lv,.int .u16 me] w fun en w'=>en=.returned (.bool (rdiC a ks l me))∧Below w.heap.size w w':=by
 obtain⟨la,lc,rfl,hsh⟩:=hL.shape
 have HSH:=hd0 hsh
 have HK:=hd0 hK
 have HOK:=hd0 hok
 have HKL:=hd0 hkl
 obtain⟨R,hR⟩:∃ R,rdiC a ks l me=R:=⟨_,rfl⟩
 have HR:=hd0 hR
 obtain⟨L,hLL⟩:∃ L,l.length=L:=⟨_,rfl⟩
 have HL:=hd0 hLL
 have hL1:L≤1000:=by omega
 rw[hLL,hR]
 clear hK hL hsh hR hkl hok hl hLL
 unfold ow8A
 go_enter Tryz.func105,Tryz.ntmps105
 go_upto_region 1 with fail
 have g0:GB 97 (w.alloc (.cells #[.int .u8 a.lv,.int .u16 a.mp,.int .u8 a.iv,.string (bs a.md)] 97)) w.heap.size (ow8A a):=heap_alloc_new _ _
 have b0:Below w.heap.size w (w.alloc (.cells #[.int .u8 a.lv,.int .u16 a.mp,.int .u8 a.iv,.string (bs a.md)] 97)):=bA _
 obtain⟨w0,hw0⟩:∃ k,w.alloc (.cells #[.int .u8 a.lv,.int .u16 a.mp,.int .u8 a.iv,.string (bs a.md)] 97)=k:=⟨_,rfl⟩
 rw[hw0] at g0 b0 ⊢
 have B0:=hd0 b0
 have G0:=hd0 g0
 clear hw0 g0 b0
 go_wp2_with fail
 go_loopw [9] (fun i wr=>∃ j:Nat,j≤L∧i=.int .i64 ((j:Int)-1)∧Hid (R=rdiC a ks (l.take j) me)∧Hid (Below w0.heap.size w0 wr)) (fun i _=>(intOf i+1).toNat)
 case atStart=>exact⟨L,Nat.le_refl _,by go_num,hd0 (by rw[List.take_of_length_le (by rw[HL.out];exact Nat.le_refl _)];exact HR.out.symm),hd0 (Below.refl _ _)⟩
 case round =>
  obtain⟨j,hj,rfl,HJ,HBW⟩:=hrel
  rcases j with _|j
  ·rw[show(((0:Nat):Int)-1)=-1 from rfl]
   have HZ:Hid (R=false):=hd0 (by rw[HJ.out];rfl)
   go_wp2
   go_ret
   exact⟨by rw[HZ.out];rfl,B0.out.trans (HBW.out.mono B0.out.size)⟩
  rw[show(((j+1:Nat):Int)-1)=(j:Int) by omega]
  have hjb:(j:Int)<1001:=by omega
  have hlt:j<L:=by omega
  obtain⟨b,off,rfl,hcc⟩:=HSH.out.resolve_left (by intro h;have:=HL.out;rw[h] at this;simp at this;omega)
  have hjl:j<l.length:=by rw[HL.out];exact hlt
  obtain⟨x,hx⟩:∃ x,l[j]=x:=⟨_,rfl⟩
  have hxo:x.Ok:=by rw[←hx];exact HOK.out _ (List.getElem_mem _)
  have HXO:=hd0 hxo
  have cellx:Hid (∀ i v,i<7→(hdC x)[i]?=some v→∀ W,Below w0.heap.size w0 W→W.cell? ⟨b,off+j*7+i,none⟩=some v):=hd0 fun i v hi hv W hW=>by
   have h1:w.cell? ⟨b,off+j*7+i,none⟩=some v:=by rw[hcc j hjl i hi,hx];exact hv
   exact((B0.out.trans (hW.mono B0.out.size)).cell (World.block_lt_of_cell? w _ h1)).trans h1
  have HJ2:Hid (R=if hitC a ks me x=true then x.c.rd else rdiC a ks (l.take j) me):=hd0 (by
   have e:l.take (j+1)=l.take j++[x]:=by rw[List.take_add_one,List.getElem?_eq_getElem hjl,hx];rfl
   rw[HJ.out,e,rdiC_snoc])
  have LX:Hid (∀ (kk:Later wr),Below w0.heap.size w0 kk.out):=hd0 fun kk=>HBW.out.trans (kk.h.mono HBW.out.size)
  clear hcc hjl hx HJ hxo hj
  obtain⟨SK,hSK⟩:∃ z,hitC a ks me x=z:=⟨_,rfl⟩
  have HSK:=hd0 hSK
  rw[hSK] at HJ2
  clear hSK
  go_upto_region 4 with fail
  go_cut [35] (fun s35 wx=>s35=.bool SK∧Hid (Below w0.heap.size w0 wx))
  case first =>
   obtain⟨KD,hKD⟩:∃ z,kindC a ks x.c=z:=⟨_,rfl⟩
   have MB:∀ kk:Later wr,Calls Tryz.prog 131 #[.agg #[.int .u8 a.lv,.int .u16 a.mp,.int .u8 a.iv,.string (bs a.md)],sv,.agg #[.int .u8 x.c.lv,.bool x.c.rd,.int .u8 x.c.iv,.int .u32 x.c.sq,.int .u16 x.c.me,.string (bs x.c.md)]] kk.out fun e w'=>e=.returned (.int .i64 KD)∧Below kk.out.heap.size kk.out w':=fun kk=>by
    rw[←hKD]
    exact kindR_any a x.c HXO.out.m sv ks kk.out (HK.out.later u1_len (B0.out.trans ((LX.out kk).mono B0.out.size))) HKL.out
   have k0:∀ kk:Later wr,kk.out.cell? ⟨w.heap.size,0,none⟩=some (.int .u8 a.lv):=fun kk=>(G0.out.later (LX.out kk)).c 0 _ rfl
   have k1:∀ kk:Later wr,kk.out.cell? ⟨w.heap.size,1,none⟩=some (.int .u16 a.mp):=fun kk=>(G0.out.later (LX.out kk)).c 1 _ rfl
   have k2:∀ kk:Later wr,kk.out.cell? ⟨w.heap.size,2,none⟩=some (.int .u8 a.iv):=fun kk=>(G0.out.later (LX.out kk)).c 2 _ rfl
   have k3:∀ kk:Later wr,kk.out.cell? ⟨w.heap.size,3,none⟩=some (.string (bs a.md)):=fun kk=>(G0.out.later (LX.out kk)).c 3 _ rfl
   have x1:∀ kk:Later wr,kk.out.cell? ⟨b,off+j*7+1,none⟩=some (.int .u8 x.c.lv):=fun kk=>cellx.out 1 _ (by decide) rfl _ (LX.out kk)
   have x2:∀ kk:Later wr,kk.out.cell? ⟨b,off+j*7+2,none⟩=some (.bool x.c.rd):=fun kk=>cellx.out 2 _ (by decide) rfl _ (LX.out kk)
   have x3:∀ kk:Later wr,kk.out.cell? ⟨b,off+j*7+3,none⟩=some (.int .u8 x.c.iv):=fun kk=>cellx.out 3 _ (by decide) rfl _ (LX.out kk)
   have x4:∀ kk:Later wr,kk.out.cell? ⟨b,off+j*7+4,none⟩=some (.int .u32 x.c.sq):=fun kk=>cellx.out 4 _ (by decide) rfl _ (LX.out kk)
   have x5:∀ kk:Later wr,kk.out.cell? ⟨b,off+j*7+5,none⟩=some (.int .u16 x.c.me):=fun kk=>cellx.out 5 _ (by decide) rfl _ (LX.out kk)
   have x6:∀ kk:Later wr,kk.out.cell? ⟨b,off+j*7+6,none⟩=some (.string (bs x.c.md)):=fun kk=>cellx.out 6 _ (by decide) rfl _ (LX.out kk)
   have hS:SK=((KD==1)&&(x.c.me==me)):=by rw[←HSK.out,← hKD];rfl
   clear hKD
   obtain⟨E1,hE1⟩:∃ z,(KD==1)=z:=⟨_,rfl⟩
   obtain⟨E3,hE3⟩:∃ z,(x.c.me==me)=z:=⟨_,rfl⟩
   rw[hE1,hE3] at hS
   have HS:=hd0 hS
   clear hS
   cases E1
   all_goals
    refine wp_region_later (by kernel_rfl) (by kernel_rfl) ?_
    repeat (go_big_quiet_step (first|(go_at_call 131;exact Calls.later (MB _))))
    refine wpQuiet_nil ?_
    rintro _ ⟨kk,rfl⟩
    go_wp2_with fail
    go_meet
    exact⟨by rw[HS.out];rfl,hd0 (LX.out kk)⟩
  case rest =>
   obtain⟨rfl,HB5⟩:=hcut
   cases SK
   ·have HJ3:Hid (R=rdiC a ks (l.take j) me):=hd0 (by rw[HJ2.out];rfl)
    go_wp2
    exact⟨⟨j,by omega,by go_num,HJ3,HB5⟩,by simp[intOf]⟩
   ·have HZ:Hid (R=x.c.rd):=hd0 (by rw[HJ2.out];rfl)
    have x2:wc.cell? ⟨b,off+j*7+2,none⟩=some (.bool x.c.rd):=cellx.out 2 _ (by decide) rfl _ HB5.out
    go_wp2
    go_ret
    exact⟨by rw[HZ.out];rfl,B0.out.trans (HB5.out.mono B0.out.size)⟩
theorem Us.ru {w:World}{B:Nat}{v:Value}{l:List Int}(h:Us w B v l):Rw 1 u1 w v l:=by
 rcases h.shape with⟨rfl,rfl⟩|⟨g,cap,t,rfl,hB,hr,_⟩
 ·exact .inl ⟨rfl,rfl⟩
 ·refine .inr ⟨⟨g,0,none⟩,cap,rfl,.inr ⟨g,0,rfl,fun j hj i hi=>?_⟩⟩
  obtain⟨a,c,h1,h2⟩:=h.cells
  rcases h2 with h2|⟨g',e,h3⟩
  ·rw[h2] at hj;simp at hj
  ·injection h1 with e1 e2 e3
   rw[←e1] at e
   injection e with e;injection e with e
   subst e
   have hi0:i=0:=by omega
   subst hi0
   have:=h3 j hj
   simp only[Nat.zero_add,Nat.mul_one,Nat.add_zero]
   rw[this];rfl
def eqN (n:Nat)(x:Int):Bool:=x==(n:Int)
def riseN (ks:List Int):Nat→List Int
 | 0=>[]
 | n+1=>riseN ks n++ks.filter (eqN n)
theorem riseN_len (ks:List Int):∀ n,(riseN ks n).length≤n*ks.length
 | 0=>Nat.zero_le _
 | n+1=>by
  have:=riseN_len ks n
  have:=List.length_filter_le (eqN n) ks
  unfold riseN
  rw[List.length_append,Nat.succ_mul];omega
theorem mostC_snoc (a:Ow8)(ks:List Int)(l:List Hd)(kd me now:Int)(h:Hd):mostC a ks (l++[h]) kd me now=stepC a ks kd me now (mostC a ks l kd me now) h:=by
 unfold mostC;rw[List.foldl_append];rfl
theorem stepC_pos {a:Ow8}{ks:List Int}{kd me now m:Int}{h:Hd}(hm:0≤m):0≤stepC a ks kd me now m h:=by
 unfold stepC;split
 ·exact hm
 ·split <;> omega
theorem fold_pos (a:Ow8)(ks:List Int)(kd me now:Int):∀ (l:List Hd) (m:Int),0≤m→0≤l.foldl (stepC a ks kd me now) m
 |[],m,h=>h
 | x::r,m,h=>fold_pos a ks kd me now r _ (stepC_pos h)
theorem mostC_pos (a:Ow8)(ks:List Int)(l:List Hd)(kd me now:Int):0≤mostC a ks l kd me now:=fold_pos a ks kd me now l 0 (Int.le_refl _)
theorem leftC_pos (a:Ow8)(ks:List Int)(l:List Hd)(kd me now:Int):0≤leftC a ks l kd me now:=by
 have:=mostC_pos a ks l kd me now
 unfold leftC;split <;> omega
theorem stepC_tick {a:Ow8}{ks:List Int}{kd me now m:Int}{h:Hd}(hm:0≤m):stepC a ks kd me (now+1) (dn1 m) h=dn1 (stepC a ks kd me now m h):=by
 unfold stepC
 cases skipC a ks kd me h
 ·simp only[Bool.false_eq_true,if_false]
  unfold dn1
  (repeat' split) <;> omega
 ·rfl
theorem fold_tick (a:Ow8)(ks:List Int)(kd me now:Int):∀ (l:List Hd) (m:Int),0≤m→l.foldl (stepC a ks kd me (now+1)) (dn1 m)=dn1 (l.foldl (stepC a ks kd me now) m)
 |[],m,h=>rfl
 | x::r,m,h=>by
  rw[List.foldl_cons,List.foldl_cons,stepC_tick h]
  exact fold_tick a ks kd me now r _ (stepC_pos h)
theorem leftC_tick (a:Ow8)(ks:List Int)(l:List Hd)(kd me now:Int):leftC a ks l kd me (now+1)=dn1 (leftC a ks l kd me now):=by
 have h1:mostC a ks l kd me (now+1)=dn1 (mostC a ks l kd me now):=fold_tick a ks kd me now l 0 (Int.le_refl _)
 have h2:=mostC_pos a ks l kd me now
 unfold leftC
 rw[h1]
 by_cases hk:kd=1
 ·simp only[hk,true_and]
  rw[hk] at h2
  unfold dn1
  (repeat' split) <;> omega
 ·rw[if_neg (fun h=>hk h.1),if_neg (fun h=>hk h.1)]
theorem fold_le (a:Ow8)(ks:List Int)(me now:Int):∀ (l:List Hd) (m:Int),(∀ h∈l,h.at'≤now)→m≤lastC a.iv→l.foldl (stepC a ks 1 me now) m≤lastC a.iv
 |[],m,_,h=>h
 | x::r,m,hl,h=>by
  rw[List.foldl_cons]
  refine fold_le a ks me now r _ (fun y hy=>hl y (List.mem_cons_of_mem _ hy)) ?_
  have hx:=hl x (List.mem_cons_self ..)
  unfold stepC
  cases hs:skipC a ks 1 me x
  ·have hk:kindC a ks x.c=1:=by
    unfold skipC at hs
    rw[Bool.or_eq_false_iff] at hs
    have:=hs.1
    simpa using this
   have hiv:x.c.iv=a.iv:=by
    unfold kindC at hk
    split at hk
    ·exact absurd hk (by decide)
    ·split at hk
     ·exact absurd hk (by decide)
     ·split at hk
      ·rename_i h3;exact h3.2
      ·exact absurd hk (by decide)
   simp only[Bool.false_eq_true,if_false,hiv]
   split <;> omega
  ·exact h
structure Inv (a:Ow8)(all:List Int)(V:List Vn)(bd cr:Int)(l:List Hd)(now:Int):Prop where
 hbd:bd=leftC a all l 2 0 now
 hcr:cr=leftC a all l 3 0 now
 v:∀ x∈V,x.2.1=leftC a all l 1 x.1 now∧x.2.2=if rdiC a all l x.1=true then 1 else 0
 ks:V.map (·.1)=all
 at':∀ h∈l,h.at'≤now
 hnow:0≤now
 bnd:Bnd V bd cr
theorem Inv.tick {a:Ow8}{all:List Int}{V:List Vn}{bd cr now:Int}{l:List Hd}(h:Inv a all V bd cr l now):Inv a all (tickV V) (dn1 bd) (dn1 cr) l (now+1):=by
 refine⟨by rw[h.hbd,leftC_tick],by rw[h.hcr,leftC_tick],?_,by rw[tickV_keys];exact h.ks,fun x hx=>by have:=h.at' x hx;omega,by have:=h.hnow;omega,?_,?_,dn1_bnd h.bnd.b,dn1_bnd h.bnd.c⟩
 ·intro x hx
  obtain⟨y,hy,rfl⟩:=List.mem_map.1 hx
  refine⟨?_,(h.v y hy).2⟩
  show dn1 y.2.1=_
  rw[(h.v y hy).1,leftC_tick]
 ·intro x hx
  obtain⟨y,hy,rfl⟩:=List.mem_map.1 hx
  exact dn1_bnd (h.bnd.v y hy)
 ·intro x hx
  obtain⟨y,hy,rfl⟩:=List.mem_map.1 hx
  exact h.bnd.k y hy
theorem leftC_skip {a:Ow8}{ks:List Int}{l:List Hd}{kd me now:Int}{h:Hd}(hs:skipC a ks kd me h=true):leftC a ks (l++[h]) kd me now=leftC a ks l kd me now:=by
 have e:mostC a ks (l++[h]) kd me now=mostC a ks l kd me now:=by rw[mostC_snoc];unfold stepC;rw[if_pos hs]
 unfold leftC;rw[e]
theorem leftC_max {a:Ow8}{ks:List Int}{l:List Hd}{kd me now:Int}{c:Ck}(hk:kd≠1)(hs:kindC a ks c=kd):leftC a ks (l++[⟨now,c⟩]) kd me now=max (leftC a ks l kd me now) (lastC c.iv):=by
 have e:mostC a ks (l++[⟨now,c⟩]) kd me now=max (mostC a ks l kd me now) (lastC c.iv):=by
  rw[mostC_snoc];unfold stepC
  have:skipC a ks kd me ⟨now,c⟩=false:=by unfold skipC;simp[hs,hk]
  rw[this]
  simp only[Bool.false_eq_true,if_false]
  split <;> omega
 unfold leftC
 rw[if_neg (fun h=>hk h.1),if_neg (fun h=>hk h.1),e]
theorem kind_hear {a:Ow8}{all:List Int}{V:List Vn}{bd cr:Int}(hk:V.map (·.1)=all)(c:Ck) :
  (kindC a all c=0∧hearC a V bd cr c.lv c.rd c.iv c.me c.md=(V,bd,cr))∨(kindC a all c=3∧hearC a V bd cr c.lv c.rd c.iv c.me c.md=(V,bd,max cr (lastC c.iv))) ∨
  (kindC a all c=2∧hearC a V bd cr c.lv c.rd c.iv c.me c.md=(V,max bd (lastC c.iv),cr))∨(kindC a all c=1∧c.me∈all∧c.iv=a.iv∧hearC a V bd cr c.lv c.rd c.iv c.me c.md=(vPut V (c.me,lastC c.iv,if c.rd=true then 1 else 0),bd,cr)):=by
 unfold kindC hearC
 by_cases h1:refC a c.lv c.iv c.me c.md=true
 ·rw[if_pos h1,if_pos h1];exact .inl ⟨rfl,rfl⟩
 ·rw[if_neg h1,if_neg h1]
  by_cases h2:c.lv<a.lv∨c.md≠a.md
  ·rw[if_pos h2,if_pos h2];exact .inr (.inl ⟨rfl,rfl⟩)
  ·rw[if_neg h2,if_neg h2]
   have hm:(vFind V c.me).isSome=true↔c.me∈all:=by rw[vFind_mem,hk]
   by_cases h3:c.me∈all∧c.iv=a.iv
   ·have hf:¬((vFind V c.me).isSome=false∨c.iv≠a.iv):=by
     rintro (h|h)
     ·rw[hm.2 h3.1] at h;cases h
     ·exact h h3.2
    rw[if_pos h3,if_neg hf]
    exact .inr (.inr (.inr ⟨rfl,h3.1,h3.2,rfl⟩))
   ·have hf:(vFind V c.me).isSome=false∨c.iv≠a.iv:=by
     by_cases h4:c.iv=a.iv
     ·left
      cases h5:(vFind V c.me).isSome
      ·rfl
      ·exact absurd ⟨hm.1 h5,h4⟩ h3
     ·exact .inr h4
    rw[if_neg h3,if_pos hf]
    exact .inr (.inr (.inl ⟨rfl,rfl⟩))
theorem Inv.hear {a:Ow8}{all:List Int}{V:List Vn}{bd cr now:Int}{l:List Hd}(hr:Rising V)(h:Inv a all V bd cr l now)(c:Ck)(hme:0≤c.me∧c.me<65536) :
  Inv a all (hearC a V bd cr c.lv c.rd c.iv c.me c.md).1 (hearC a V bd cr c.lv c.rd c.iv c.me c.md).2.1 (hearC a V bd cr c.lv c.rd c.iv c.me c.md).2.2 (l++[⟨now,c⟩]) now:=by
 have hat:∀ x∈l++[(⟨now,c⟩:Hd)],x.at'≤now:=by
  intro x hx
  rcases List.mem_append.1 hx with hx|hx
  ·exact h.at' x hx
  ·rw[List.mem_singleton.1 hx];exact Int.le_refl _
 have hlb:=lastC_b c.iv
 have B:=h.bnd
 have nohit:∀ k,kindC a all c≠1→hitC a all k ⟨now,c⟩=false:=fun k hk=>by unfold hitC;simp[hk]
 have sk:∀ kd me,kindC a all c≠kd→skipC a all kd me ⟨now,c⟩=true:=fun kd me hk=>by unfold skipC;simp[hk]
 have same:kindC a all c≠1→∀ x∈V,x.2.1=leftC a all (l++[⟨now,c⟩]) 1 x.1 now∧x.2.2=if rdiC a all (l++[⟨now,c⟩]) x.1=true then 1 else 0:=fun hk x hx=>by
  rw[leftC_skip (sk 1 x.1 hk),rdiC_snoc,nohit x.1 hk]
  exact h.v x hx
 rcases kind_hear (a:=a) (bd:=bd) (cr:=cr) h.ks c with⟨hk,e⟩|⟨hk,e⟩|⟨hk,e⟩|⟨hk,hm,hiv,e⟩
 ·rw[e]
  exact⟨by rw[leftC_skip (sk 2 0 (by rw[hk];decide))];exact h.hbd,by rw[leftC_skip (sk 3 0 (by rw[hk];decide))];exact h.hcr,same (by rw[hk];decide),h.ks,hat,h.hnow,B⟩
 ·rw[e]
  exact⟨by rw[leftC_skip (sk 2 0 (by rw[hk];decide))];exact h.hbd,by rw[leftC_max (by decide) hk,← h.hcr],same (by rw[hk];decide),h.ks,hat,h.hnow,B.v,B.k,B.b,by have:=B.c;show 0≤max cr (lastC c.iv)∧max cr (lastC c.iv)≤1000;omega⟩
 ·rw[e]
  exact⟨by rw[leftC_max (by decide) hk,← h.hbd],by rw[leftC_skip (sk 3 0 (by rw[hk];decide))];exact h.hcr,same (by rw[hk];decide),h.ks,hat,h.hnow,B.v,B.k,by have:=B.b;show 0≤max bd (lastC c.iv)∧max bd (lastC c.iv)≤1000;omega,B.c⟩
 ·have hm2:c.me∈V.map (·.1):=by rw[h.ks];exact hm
  have ep:=vPut_map (k:=c.me) (a:=lastC c.iv) (b:=if c.rd=true then 1 else 0) hr hm2
  rw[e,ep]
  have hmem:∀ x∈V.map (fun x=>if x.1=c.me then(c.me,lastC c.iv,if c.rd=true then(1:Int) else 0) else x),(x=(c.me,lastC c.iv,if c.rd=true then 1 else 0))∨(x∈V∧x.1≠c.me):=by
   intro x hx
   obtain⟨y,hy,rfl⟩:=List.mem_map.1 hx
   by_cases hyc:y.1=c.me
   ·rw[if_pos hyc];exact .inl rfl
   ·rw[if_neg hyc];exact .inr ⟨hy,hyc⟩
  refine⟨by rw[leftC_skip (sk 2 0 (by rw[hk];decide))];exact h.hbd,by rw[leftC_skip (sk 3 0 (by rw[hk];decide))];exact h.hcr,?_,?_,hat,h.hnow,?_,?_,B.b,B.c⟩
  ·intro x hx
   rcases hmem x hx with rfl|⟨hx,hne⟩
   ·constructor
    ·show lastC c.iv=leftC a all (l++[⟨now,c⟩]) 1 c.me now
     have h1:mostC a all l 1 c.me now≤lastC a.iv:=fold_le a all c.me now l 0 h.at' (by have:=lastC_b a.iv;omega)
     have h0:=h.hnow
     have e1:mostC a all (l++[⟨now,c⟩]) 1 c.me now=lastC a.iv:=by
      rw[mostC_snoc];unfold stepC
      have:skipC a all 1 c.me ⟨now,c⟩=false:=by unfold skipC;simp[hk]
      rw[this]
      simp only[Bool.false_eq_true,if_false,hiv]
      split <;> omega
     unfold leftC
     rw[e1,if_neg (by omega),hiv]
    ·show(if c.rd=true then(1:Int) else 0)=_
     rw[rdiC_snoc]
     have:hitC a all c.me ⟨now,c⟩=true:=by unfold hitC;simp[hk]
     rw[this,if_pos rfl]
   ·have hs:skipC a all 1 x.1 ⟨now,c⟩=true:=by unfold skipC;rw[show(c.me != x.1)=true from by rw[bne_iff_ne];exact fun e=>hne e.symm];simp
    have hh:hitC a all x.1 ⟨now,c⟩=false:=by unfold hitC;rw[show(c.me==x.1)=false from by rw[beq_eq_false_iff_ne];exact fun e=>hne e.symm];simp
    rw[leftC_skip hs,rdiC_snoc,hh]
    exact h.v x hx
  ·rw[←h.ks,List.map_map]
   refine List.map_congr_left fun x hx=>?_
   simp only[Function.comp]
   by_cases hxc:x.1=c.me
   ·rw[if_pos hxc];exact hxc.symm
   ·rw[if_neg hxc]
  ·intro x hx
   rcases hmem x hx with rfl|⟨hx,_⟩
   ·show 0≤lastC c.iv∧lastC c.iv≤1000;omega
   ·exact B.v x hx
  ·intro x hx
   rcases hmem x hx with rfl|⟨hx,_⟩
   ·exact hme
   ·exact B.k x hx
def lostR (a:Ow8)(all:List Int)(l:List Hd)(now:Int):List Int:=all.filter fun k=>leftC a all l 1 k now==0
def rdisR (a:Ow8)(all:List Int)(l:List Hd)(now:Int):List Int:=all.filter fun k=>!(leftC a all l 1 k now==0)&&rdiC a all l k
theorem Inv.lost {a:Ow8}{all:List Int}{V:List Vn}{bd cr now:Int}{l:List Hd}(h:Inv a all V bd cr l now):thoseV isL V=lostR a all l now:=by
 unfold thoseV lostR
 rw[←h.ks,List.filter_map,h.ks]
 congr 1
 refine List.filter_congr fun x hx=>?_
 unfold isL
 simp only[Function.comp,(h.v x hx).1]
 rfl
theorem Inv.rdis {a:Ow8}{all:List Int}{V:List Vn}{bd cr now:Int}{l:List Hd}(h:Inv a all V bd cr l now):thoseV isR V=rdisR a all l now:=by
 unfold thoseV rdisR
 rw[←h.ks,List.filter_map,h.ks]
 congr 1
 refine List.filter_congr fun x hx=>?_
 unfold isR
 have h1:=(h.v x hx).1
 have h2:=(h.v x hx).2
 have h3:=leftC_pos a all l 1 x.1 now
 simp only[Function.comp]
 rw[h2,h1]
 cases rdiC a all l x.1
 ·simp
 ·simp
  by_cases h0:leftC a all l 1 x.1 now=0
  ·rw[h0];rfl
  ·rw[decide_eq_true (by omega),show(leftC a all l 1 x.1 now==0)=false from by rw[beq_eq_false_iff_ne];exact h0];rfl
end Go.Proofs.YtlkdfofpnmpidaaGreat
