/- ZR04 -/
import Derived.Test.YtghaobakpdninaaGreatDoorZR03
set_option linter.unusedVariables false
set_option linter.unusedSimpArgs false
set_option maxRecDepth 100000
set_option maxHeartbeats 16000000
namespace Go.Proofs.YtghaobakpdninaaGreatDoor
open Go.RowKit
def NB (o:Obj):Prop:=∀ cs fr,o≠.cells cs 5 fr
def Kp (w w':World):Prop:=∀ (q:Nat) (o:Obj),w.heap[q]?=some o→NB o→w'.heap[q]?=some o
theorem Kp.refl (w:World):Kp w w:=fun _ _ h _=>h
theorem lt_of_heap {w:World}{q:Nat}{o:Obj}(h:w.heap[q]?=some o):q<w.heap.size:=by
 rcases Nat.lt_or_ge q w.heap.size with h1|h1
 ·exact h1
 ·rw[Array.getElem?_eq_none h1] at h;cases h
theorem Kp.grown {w w':World}{B:Nat}{v:Value}{l:List UInt8}(hown:Bys w B v l)(h:w.grownBy w' v.ownBlock):Kp w w':=fun q o h1 h2=>by
 by_cases hq:some q=v.ownBlock
 ·exfalso
  rcases hown.2 with⟨rfl,_⟩|⟨g,cap,cur,rfl,_,hg,_⟩
  ·cases hq
  ·have:q=g:=by simpa [Value.ownBlock] using hq
   subst this
   rw[h1] at hg
   exact h2 _ _ (Option.some.inj hg)
 ·exact(h.block q (lt_of_heap h1) hq).trans h1
section
variable {w:World} {ops:Array Oper} {rest:List Oper} {o:Oper} {a:Act} {Q:Exit→Act→World→Prop} {K:Act→World→Prop}
theorem wpList_append_bysK (hgd:o.guard=Option.none)(s x:Operand)
  (ho:o.op=.call { callee:=.builtin .append,args:=#[s,x],argTypes:=#[78,78] })
  (B:Nat) (v:Value) (l:List UInt8) (hs:a.eval s=v) (hown:Bys w B v l)
  (ad:Addr) (c:Nat) (news:List UInt8) (m:Nat) (hm:m=news.length) (hx:a.eval x=.slice (some ad) m c) (hnews:∀ j (hj:j<news.length),w.cell? (ad.add j)=some (byteV news[j]))
  (hsz:l.length+news.length≤1099511627776) (hB:B≤w.heap.size)
  (h:∀ v' w',Bys w' B v' (l++news)→Below B w w'→Kp w w'→wpList Tryz.prog ops Q rest (a.put o.dst v') w'):wpList Tryz.prog ops Q (o::rest) a w:=by
 obtain⟨i,hi,hz0,hz1,hz2⟩:=info_parts info_u8
 subst hm
 refine wpList_append_own w hgd s x 78 ho B 5 i (.int .u8 0) 1 1 Tryz.underlying78 hi hz0 hz1 hz2 rfl (by decide) v l.length (l.map byteV) hs hown ad news.length c (news.map byteV) hx (by simp)
  (fun j u hj=>?_) (fun u hu=>?_) (by unfold maxLen;omega) (by omega) hB (fun v' w' h1 h2 _=>?_)
 ·have hj':j<news.length:=by have:=(List.getElem?_eq_some_iff.1 hj).1;simpa using this
  rw[hnews j hj']
  simp[hj'] at hj
  rw[hj]
 ·obtain⟨b,_,rfl⟩:=List.mem_map.1 hu
  rfl
 ·refine h v' w' (by unfold Bys;simpa using h1) ((Below.refl _ _).grown h2 hB (fun k hk=>?_)) (Kp.grown hown h2)
  exact(World.ownsRow.lt hown k hk).1
theorem wp_append_srcK (s x:Operand)(ho:o.op=.call { callee:=.builtin .append,args:=#[s,x],argTypes:=#[78,78] })
  (B:Nat) (v:Value) (l:List UInt8) (hs:a.eval s=v) (hown:Bys w B v l) (u:Value) (t:List UInt8) (hx:a.eval x=u) (hsrc:Src w u t)
  (hsz:l.length+t.length≤1099511627776) (hB:B≤w.heap.size)
  (h:∀ v' w',Bys w' B v' (l++t)→Below B w w'→Kp w w'→K (a.put o.dst v') w'):o.wp Tryz.prog a w K Q:=by
 obtain⟨i,hi,hz0,hz1,hz2⟩:=info_parts info_u8
 rcases hsrc with⟨rfl,rfl⟩|⟨ad,c,rfl,hnews⟩
 ·have hrun:=run_append_owned_none (P:=Tryz.prog) w B 78 o.type 5 i 1 Tryz.underlying78 hi v l.length (l.map byteV) hown
  unfold Oper.wp
  simp[execOp,ho,resolve,invoke,builtin,hs,hx,hrun,Result.andThen]
  exact h _ _ (by simpa using hown) (Below.refl _ _) (Kp.refl _)
 ·refine wp_append_own w s x 78 ho B 5 i (.int .u8 0) 1 1 Tryz.underlying78 hi hz0 hz1 hz2 rfl (by decide) v l.length (l.map byteV) hs hown ad t.length c (t.map byteV) hx (by simp)
   (fun j u hj=>?_) (fun u hu=>?_) (by unfold maxLen;omega) (by omega) hB (fun v' w' h1 h2 _=>?_)
  ·have hj':j<t.length:=by have:=(List.getElem?_eq_some_iff.1 hj).1;simpa using this
   rw[hnews j hj']
   simp[hj'] at hj
   rw[hj]
  ·obtain⟨b,_,rfl⟩:=List.mem_map.1 hu
   rfl
  ·exact h v' w' (by unfold Bys;simpa using h1) ((Below.refl _ _).grown h2 hB (fun k hk=>(World.ownsRow.lt hown k hk).1)) (Kp.grown hown h2)
theorem wpList_append_srcK (hgd:o.guard=Option.none)(s x:Operand)(ho:o.op=.call { callee:=.builtin .append,args:=#[s,x],argTypes:=#[78,78] })
  (B:Nat) (v:Value) (l:List UInt8) (hs:a.eval s=v) (hown:Bys w B v l) (u:Value) (t:List UInt8) (hx:a.eval x=u) (hsrc:Src w u t)
  (hsz:l.length+t.length≤1099511627776) (hB:B≤w.heap.size)
  (h:∀ v' w',Bys w' B v' (l++t)→Below B w w'→Kp w w'→wpList Tryz.prog ops Q rest (a.put o.dst v') w'):wpList Tryz.prog ops Q (o::rest) a w :=
 wpList_plain hgd fun K hK=>wp_append_srcK s x ho B v l hs hown u t hx hsrc hsz hB fun v' w' h1 h2 h3=>hK _ _ (h v' w' h1 h2 h3)
theorem step_append_srcK {E:Prop}(hgd:o.guard=Option.none)(s x:Operand)(ho:o.op=.call { callee:=.builtin .append,args:=#[s,x],argTypes:=#[78,78] })
  (B:Nat) (v:Value) (l:List UInt8) (hs:a.eval s=v) (hown:Bys w B v l) (u:Value) (t:List UInt8) (hx:a.eval x=u) (hsrc:Src w u t)
  (hsz:l.length+t.length≤1099511627776) (hB:B≤w.heap.size)
  (h:∀ v' w',Bys w' B v' (l++t)→Below B w w'→Kp w w'→K (a.put o.dst v') w'):if Region.wanted o (yielded ops a.tmps)=true then Oper.wp Tryz.prog o a w K Q else E:=by
 rw[if_pos (by simp[Region.wanted,hgd])]
 exact wp_append_srcK s x ho B v l hs hown u t hx hsrc hsz hB h
end
open Go.ChangeShapes Go.WideShapes Go.ChangeAt Go.RowKit Go.Joins
def wfM (a b c d e f:Int):Prop:=(0≤a∧a<256)∧(0≤b∧b<256)∧(0≤c∧c<256)∧(0≤d∧d<256)∧(0≤e∧e<256)∧(0≤f∧f<256)
def mayF (t:Bool)(p v y:Int):Bool:=if t=true then(decide (p<8)&&decide (v<4096)) else((p==0)&&((v==0)&&(y != 33024)))
def lenF (t:Bool)(d:List UInt8):Int:=(if t=true then 18 else 14)+(d.length:Int)
def byt (a:Int):UInt8:=UInt8.ofNat a.toNat
theorem byt_nat (a:Int)(h:0≤a∧a<256):((byt a).toNat:Int)=a:=by
 unfold byt;simp;omega
theorem byteV_byt (a:Int)(h:0≤a∧a<256):byteV (byt a)=.int .u8 a:=by unfold byteV;rw[byt_nat a h]
def byM (a b c d e f:Int):List UInt8:=[byt a,byt b,byt c,byt d,byt e,byt f]
theorem src6 {W:World}{p o n:Nat}{a b c d e f:Int}(h0:W.cell? ⟨p,o,none⟩=some (.int .u8 a))(h1:W.cell? ⟨p,o+1,none⟩=some (.int .u8 b))(h2:W.cell? ⟨p,o+2,none⟩=some (.int .u8 c))(h3:W.cell? ⟨p,o+3,none⟩=some (.int .u8 d))(h4:W.cell? ⟨p,o+4,none⟩=some (.int .u8 e))(h5:W.cell? ⟨p,o+5,none⟩=some (.int .u8 f))(hw:wfM a b c d e f):Src W (.slice (some ⟨p,o,none⟩) 6 n) (byM a b c d e f):=by
 obtain⟨w0,w1,w2,w3,w4,w5⟩:=hw
 refine .inr ⟨⟨p,o,none⟩,n,rfl,fun j hj=>?_⟩
 have hj6:j<6:=hj
 rw[Go.WideShapes.add_plain]
 have:j=0∨j=1∨j=2∨j=3∨j=4∨j=5:=by omega
 rcases this with rfl|rfl|rfl|rfl|rfl|rfl
 ·exact h0.trans (congrArg some (byteV_byt a w0).symm)
 ·exact h1.trans (congrArg some (byteV_byt b w1).symm)
 ·exact h2.trans (congrArg some (byteV_byt c w2).symm)
 ·exact h3.trans (congrArg some (byteV_byt d w3).symm)
 ·exact h4.trans (congrArg some (byteV_byt e w4).symm)
 ·exact h5.trans (congrArg some (byteV_byt f w5).symm)
theorem may_any (x0 x1 x2 x3 x4 x5 x6 x7 x8 x9 x10 x11 xt xp xv xy xd)(w:World):Calls Tryz.prog 179 #[.agg #[.int .u8 x0,.int .u8 x1,.int .u8 x2,.int .u8 x3,.int .u8 x4,.int .u8 x5,.int .u8 x6,.int .u8 x7,.int .u8 x8,.int .u8 x9,.int .u8 x10,.int .u8 x11,.bool xt,.int .u8 xp,.int .u16 xv,.int .u16 xy,.string (bs xd)]] w fun en w'=>en=.returned (.bool (mayF xt xp xv xy))∧Below w.heap.size w w':=by
 obtain⟨R,hR⟩:∃ R,mayF xt xp xv xy=R:=⟨_,rfl⟩
 have HR:=hd0 hR
 rw[hR];clear hR
 cases xt with
 | true =>
  have hR:R=(decide (xp<8)&&decide (xv<4096)):=by rw[←HR.out];rfl
  have HRR:=hd0 hR
  clear hR
  go_enter Tryz.func179,Tryz.ntmps179
  cases h1:decide (xp<8) with
  | true =>
   go_wp2
   go_ret
   exact⟨by rw[HRR.out,h1];rfl,bAo _⟩
  | false =>
   go_wp2
   go_ret
   exact⟨by rw[HRR.out,h1];rfl,bAo _⟩
 | false =>
  have hR:R=((xp==0)&&((xv==0)&&(xy != 33024))):=by rw[←HR.out];rfl
  have HRR:=hd0 hR
  clear hR
  cases h1:(xp==0) with
  | true =>
   cases h2:(xv==0) with
   | true =>
    go_enter Tryz.func179,Tryz.ntmps179
    go_wp2
    go_ret
    exact⟨by rw[HRR.out,h1,h2];rfl,bAo _⟩
   | false =>
    go_enter Tryz.func179,Tryz.ntmps179
    go_wp2
    go_ret
    exact⟨by rw[HRR.out,h1,h2];rfl,bAo _⟩
  | false =>
   go_enter Tryz.func179,Tryz.ntmps179
   go_wp2
   go_ret
   exact⟨by rw[HRR.out,h1];rfl,bAo _⟩
theorem len_any (x0 x1 x2 x3 x4 x5 x6 x7 x8 x9 x10 x11 xt xp xv xy xd)(w:World)(hd:xd.length≤1000000):Calls Tryz.prog 180 #[.agg #[.int .u8 x0,.int .u8 x1,.int .u8 x2,.int .u8 x3,.int .u8 x4,.int .u8 x5,.int .u8 x6,.int .u8 x7,.int .u8 x8,.int .u8 x9,.int .u8 x10,.int .u8 x11,.bool xt,.int .u8 xp,.int .u16 xv,.int .u16 xy,.string (bs xd)]] w fun en w'=>en=.returned (.int .i64 (lenF xt xd))∧Below w.heap.size w w':=by
 have hs:=bs_size xd
 cases xt with
 | true =>
  go_enter Tryz.func180,Tryz.ntmps180
  go_wp2
  go_ret
  exact⟨rfl,bAo _⟩
 | false =>
  go_enter Tryz.func180,Tryz.ntmps180
  go_wp2
  go_ret
  exact⟨rfl,bAo _⟩
def byF (x0 x1 x2 x3 x4 x5 x6 x7 x8 x9 x10 x11:Int)(t:Bool)(p v y:Int)(d:List UInt8):List UInt8 :=
 byM x0 x1 x2 x3 x4 x5++byM x6 x7 x8 x9 x10 x11++(if t=true then be 2 33024++be 2 (p*8192+v) else[])++be 2 y++d
def putF (x0 x1 x2 x3 x4 x5 x6 x7 x8 x9 x10 x11:Int)(t:Bool)(p v y:Int)(d:List UInt8):List UInt8 × Int :=
 if mayF t p v y=true then(if 1522<lenF t d then([],5) else(byF x0 x1 x2 x3 x4 x5 x6 x7 x8 x9 x10 x11 t p v y d,0)) else([],2)
def wfF (x0 x1 x2 x3 x4 x5 x6 x7 x8 x9 x10 x11:Int)(p v y:Int):Prop:=wfM x0 x1 x2 x3 x4 x5∧wfM x6 x7 x8 x9 x10 x11∧(0≤p∧p<256)∧(0≤v∧v<65536)∧(0≤y∧y<65536)
def FB (W:World)(q:Nat)(A:Array Value):Prop:=W.heap[q]?=some (.cells A 264 (0,0))
theorem FB.lt {W:World}{q:Nat}{A:Array Value}(h:FB W q A):q<W.heap.size:=lt_of_heap h
theorem FB.below {W W':World}{q B:Nat}{A:Array Value}(h:FB W q A)(hq:q<B)(hb:Below B W W'):FB W' q A:=by
 unfold FB;rw[hb.block q hq];exact h
theorem FB.later {W W':World}{q:Nat}{A:Array Value}(h:FB W q A)(hb:Below W.heap.size W W'):FB W' q A:=h.below h.lt hb
theorem FB.c {W:World}{q:Nat}{A:Array Value}(h:FB W q A)(j:Nat)(v:Value)(hv:A[j]?=some v):W.cell? ⟨q,j,none⟩=some v:=by
 unfold FB at h;simp[World.cell?,h,hv]
theorem FB.range {W:World}{q:Nat}{A:Array Value}(h:FB W q A):W.rangeAt q 0 A.toList:=fun j v hv=>by
 rw[Nat.zero_add];exact h.c j v (by simpa using hv)
theorem FB.new (W:World)(A:Array Value):FB (W.alloc (.cells A 264)) W.heap.size A:=heap_alloc_new W _
theorem or_vid (p v:Int)(hp:0≤p∧p<8)(hv:0≤v∧v<4096):bits .or .u16 (p*8192) v=p*8192+v:=by
 obtain⟨n,rfl⟩:∃ n:Nat,p=n:=⟨p.toNat,by omega⟩
 obtain⟨m,rfl⟩:∃ m:Nat,v=m:=⟨v.toNat,by omega⟩
 have e2:bits BinOp.or IntKind.u16 ((n:Int)*8192) (m:Int)=((n*8192 ||| m:Nat):Int):=by
  have:=u16_or ((n:Int)*8192) (m:Int) (by omega) (by omega) (by omega) (by omega)
  rw[this]
  congr 2
 rw[e2]
 have e3:n*8192 ||| m=n*8192+m:=by
  have:=Nat.two_pow_add_eq_or_of_lt (i:=13) (b:=m) (by omega) n
  rw[show n*8192=2 ^ 13*n by omega]
  exact this.symm
 rw[e3]
 simp
theorem byM_len (a b c d e f:Int):(byM a b c d e f).length=6:=rfl
theorem fput_A (A:Array Value)(x0 x1 x2 x3 x4 x5 x6 x7 x8 x9 x10 x11 xt xp xv xy xd)(hA:A=#[.int .u8 x0,.int .u8 x1,.int .u8 x2,.int .u8 x3,.int .u8 x4,.int .u8 x5,.int .u8 x6,.int .u8 x7,.int .u8 x8,.int .u8 x9,.int .u8 x10,.int .u8 x11,.bool xt,.int .u8 xp,.int .u16 xv,.int .u16 xy,.string (bs xd)])(w:World)(hw:wfF x0 x1 x2 x3 x4 x5 x6 x7 x8 x9 x10 x11 xp xv xy)(hd:xd.length≤1000000):Calls Tryz.prog 123 #[.agg A] w fun en w'=>en=.returned (.tuple #[.string (bs (putF x0 x1 x2 x3 x4 x5 x6 x7 x8 x9 x10 x11 xt xp xv xy xd).1),.int .i64 (putF x0 x1 x2 x3 x4 x5 x6 x7 x8 x9 x10 x11 xt xp xv xy xd).2])∧Below w.heap.size w w':=by
 obtain⟨R,hR⟩:∃ R,putF x0 x1 x2 x3 x4 x5 x6 x7 x8 x9 x10 x11 xt xp xv xy xd=R:=⟨_,rfl⟩
 have HR:=hd0 hR
 rw[hR];clear hR
 obtain⟨L,hL⟩:∃ L,lenF xt xd=L:=⟨_,rfl⟩
 have hsd:=bs_size xd
 have CL:Hid (∀ w,Calls Tryz.prog 180 #[.agg A] w fun en w'=>en=.returned (.int .i64 L)∧Below w.heap.size w w'):=by
  rw[←hL,hA];exact fun w=>len_any x0 x1 x2 x3 x4 x5 x6 x7 x8 x9 x10 x11 xt xp xv xy xd w hd
 obtain⟨M,hm⟩:∃ M,mayF xt xp xv xy=M:=⟨_,rfl⟩
 have CM:Hid (∀ w,Calls Tryz.prog 179 #[.agg A] w fun en w'=>en=.returned (.bool M)∧Below w.heap.size w w'):=by
  rw[←hm,hA];exact fun w=>may_any x0 x1 x2 x3 x4 x5 x6 x7 x8 x9 x10 x11 xt xp xv xy xd w
 have hsz:A.size=17:=by rw[hA];rfl
 have hin:(Tryz.prog.info? 264).map (·.size)=some A.toList.length:=by rw[Array.length_toList,hsz];kernel_rfl
 have HIN:=hd0 hin
 have HA:=hd0 hA
 clear hA hsz hin
 have fb0:=FB.new w A
 have hb0:Below w.heap.size w (w.alloc (.cells A 264)):=bAo _
 have hz0:w.heap.size<(w.alloc (.cells A 264)).heap.size:=by simp
 have FB0:=hd0 fb0
 have HB0:=hd0 hb0
 have HZ0:=hd0 hz0
 clear fb0 hb0 hz0
 go_enter Tryz.func123,Tryz.ntmps123
 go_wp2_with (refine wpList_load_mid rfl 264 (.tmp 1) rfl _ 0 rfl A.toList _ FB0.out.range Tryz.underlying264 rfl HIN.out ?_)
 with_reducible refine(CM.out _).mono ?_
 rintro en w1 ⟨rfl,hb1⟩
 have FB1:=hd0 (FB0.out.later hb1)
 have HB1:=hd0 (HB0.out.trans (hb1.mono HB0.out.size))
 have HZ1:=hd0 (Nat.lt_of_lt_of_le HZ0.out hb1.size)
 clear hb1 FB0 HB0 HZ0
 cases M with
 | false =>
  have hRR:R=([],2):=by rw[←HR.out];unfold putF;rw[hm];rfl
  have HRR:=hd0 hRR
  clear hRR hm hL
  go_wp2
  refine bodyPost_ret (v:=.tuple #[.string (bs []),.int .i64 2]) (by simp[results,Tryz.results123,go_sem];rfl) rfl ⟨by rw[HRR.out],HB1.out⟩
 | true =>
  go_wp2_with (refine wpList_load_mid rfl 264 (.tmp 1) rfl _ 0 rfl A.toList _ FB1.out.range Tryz.underlying264 rfl HIN.out ?_)
  with_reducible refine(CL.out _).mono ?_
  rintro en w2 ⟨rfl,hb2⟩
  have FB2:=hd0 (FB1.out.later hb2)
  have HB2:=hd0 (HB1.out.trans (hb2.mono HB1.out.size))
  have HZ2:=hd0 (Nat.lt_of_lt_of_le HZ1.out hb2.size)
  clear hb2 FB1 HB1 HZ1
  by_cases h15:1522<L
  ·have d15:decide ((1522:Int)<L)=true:=decide_eq_true h15
   have hRR:R=([],5):=by rw[←HR.out];unfold putF;rw[if_pos hm,hL,if_pos h15]
   have HRR:=hd0 hRR
   clear hRR hm hL h15
   go_wp2
   refine bodyPost_ret (v:=.tuple #[.string (bs []),.int .i64 5]) (by simp[results,Tryz.results123,go_sem];rfl) rfl ⟨by rw[HRR.out],HB2.out⟩
  have d15:decide ((1522:Int)<L)=false:=decide_eq_false h15
  have hRR:R=(byF x0 x1 x2 x3 x4 x5 x6 x7 x8 x9 x10 x11 xt xp xv xy xd,0):=by rw[←HR.out];unfold putF;rw[if_pos hm,hL,if_neg h15]
  have HRR:=hd0 hRR
  obtain⟨hw1,hw2,hwp,hwv,hwy⟩:=hw
  have hdl:xd.length≤1522:=by rw[←hL] at h15;unfold lenF at h15;split at h15 <;> omega
  have hor:xt=true→(0≤xp∧xp<8)∧(0≤xv∧xv<4096):=fun h=>by
   unfold mayF at hm;rw[if_pos h,Bool.and_eq_true,decide_eq_true_eq,decide_eq_true_eq] at hm;omega
  have HOR:=hd0 hor
  have HW1:=hd0 hw1
  have HW2:=hd0 hw2
  have HWY:=hd0 hwy
  clear hRR hm h15 hw1 hw2 hor hL hwy
  obtain⟨P,hP⟩:∃ P,byM x0 x1 x2 x3 x4 x5++byM x6 x7 x8 x9 x10 x11=P:=⟨_,rfl⟩
  have hPl:P.length=12:=by rw[←hP];rfl
  have HP:=hd0 hP
  clear hP
  go_upto_region 5 with fail
  go_cut [4] (fun s wx=>Hid (Bys wx (w.heap.size+1) s P)∧Hid (Below (w.heap.size+1) w2 wx))
  case first =>
   have S0:Hid (∀ W,FB W w.heap.size A→Src W (.slice (some ⟨w.heap.size,0,none⟩) 6 6) (byM x0 x1 x2 x3 x4 x5)):=fun W h=>by
    have hA:=HA.out
    exact src6 (h.c 0 _ (by rw[hA];rfl)) (h.c 1 _ (by rw[hA];rfl)) (h.c 2 _ (by rw[hA];rfl)) (h.c 3 _ (by rw[hA];rfl)) (h.c 4 _ (by rw[hA];rfl)) (h.c 5 _ (by rw[hA];rfl)) HW1.out
   have S6:Hid (∀ W,FB W w.heap.size A→Src W (.slice (some ⟨w.heap.size,6,none⟩) 6 6) (byM x6 x7 x8 x9 x10 x11)):=fun W h=>by
    have hA:=HA.out
    exact src6 (h.c 6 _ (by rw[hA];rfl)) (h.c 7 _ (by rw[hA];rfl)) (h.c 8 _ (by rw[hA];rfl)) (h.c 9 _ (by rw[hA];rfl)) (h.c 10 _ (by rw[hA];rfl)) (h.c 11 _ (by rw[hA];rfl)) HW2.out
   go_region_law (first
    |(refine step_append_src rfl (.const (.slice none 0 0)) _ rfl (w.heap.size+1) _ [] (by rfl) (Bys.none _ _) _ (byM x0 x1 x2 x3 x4 x5) (by rfl) (by exact S0.out _ FB2.out) (by simp[byM_len]) (by exact HZ2.out) ?_;intro v1 w3 hown1 hb3)
    |(refine step_append_src rfl (.tmp 15) _ rfl (w.heap.size+1) _ _ (by rfl) (by exact hown1) _ (byM x6 x7 x8 x9 x10 x11) (by rfl) (by exact S6.out _ (FB2.out.below (Nat.lt_succ_self _) (((Below.refl (w.heap.size+1) w2).drew).trans hb3))) (by simp[byM_len]) (by have h1:=hb3.size;have h2:=HZ2.out;exact Nat.le_trans h2 h1) ?_;intro v2 w4 hown2 hb4))
   all_goals go_wp2_with fail
   all_goals go_meet
   all_goals exact⟨hd0 (by rw[←HP.out];simpa using hown2),hd0 ((((Below.refl (w.heap.size+1) w2).drew).trans hb3).trans hb4)⟩
  obtain⟨HO3,HB3⟩:=hcut
  have FB3:=hd0 (FB2.out.below (Nat.lt_succ_self _) HB3.out)
  have HZ3:=hd0 (Nat.le_trans HZ2.out HB3.out.size)
  cases xt with
  | false =>
   have c12:=FB3.out.c 12 (.bool false) (by rw[HA.out];rfl)
   have FBw:=hd0 FB3.out
   have c15:=FBw.out.c 15 (.int .u16 xy) (by rw[HA.out];rfl)
   have c16:=FBw.out.c 16 (.string (bs xd)) (by rw[HA.out];rfl)
   have HPz:Hid (∀ W,Bys W (w.heap.size+1) u4 P→w.heap.size+1≤W.heap.size→Calls Tryz.prog 176 #[u4,.int .u16 xy] W fun en w'=>∃ v',en=.returned v'∧Bys w' (w.heap.size+1) v' (P++be 2 xy)∧Below (w.heap.size+1) W w') :=
    fun W h1 h2=>put_uint16 (w.heap.size+1) _ P xy W h2 h1 HWY.out.1 HWY.out.2 (by rw[hPl];omega)
   have hadd:=run_add_bs (P++be 2 xy) xd (by rw[List.length_append,hPl,be_length];omega)
   go_wp2_with fail
   go_region_law (first
    |(go_simp;go_at_call 176;refine(HPz.out wc.drew HO3.out (Nat.le_trans HZ2.out HB3.out.size)).mono ?_;rintro en wz ⟨vz,rfl,hownz,hbz⟩;have hstr:=run_string_bys hownz;have cz16:=(FBw.out.below (Nat.lt_succ_self _) (((Below.refl (w.heap.size+1) wc).drew).trans hbz)).c 16 (.string (bs xd)) (by rw[HA.out];rfl)))
   all_goals
    have HBz:=hd0 (((HB3.out.trans ((Below.refl (w.heap.size+1) wc).drew)).trans hbz))
    clear hownz hbz
   all_goals go_wp2_with fail
   all_goals refine bodyPost_ret (v:=.tuple #[.string (bs (P++be 2 xy++xd)),.int .i64 0]) (by simp[results,Tryz.results123,go_sem]) rfl ⟨by rw[HRR.out];simp only[byF,← HP.out,if_neg (show ¬(false=true) by decide),List.append_nil],HB2.out.trans (HBz.out.mono (Nat.le_succ _))⟩
  | true =>
   obtain⟨hp8,hv4⟩:=HOR.out rfl
   have c12:=FB3.out.c 12 (.bool true) (by rw[HA.out];rfl)
   have wp:IntKind.u16.wrap xp=xp:=IntWalk.u16_in _ (by omega)
   have wp2:IntKind.u16.wrap (xp*8192)=xp*8192:=IntWalk.u16_in _ (by omega)
   have hor:=or_vid xp xv hp8 hv4
   obtain⟨n,hn⟩:∃ n,xp*8192+xv=n:=⟨_,rfl⟩
   rw[hn] at hor
   have hn0:0≤n∧n<65536:=by omega
   have HNN:=hd0 hn
   clear hn
   go_wp2_with fail
   refine(put_uint16 (w.heap.size+1) u4 P 33024 wc HZ3.out HO3.out (by omega) (by omega) (by omega)).mono ?_
   rintro en w5 ⟨v5,rfl,hown5,hb5⟩
   have HO5:=hd0 hown5
   have HB5:=hd0 (HB3.out.trans hb5)
   have FB5:=hd0 (FB3.out.below (Nat.lt_succ_self _) hb5)
   have c13:=FB5.out.c 13 (.int .u8 xp) (by rw[HA.out];rfl)
   have c14:=FB5.out.c 14 (.int .u16 xv) (by rw[HA.out];rfl)
   clear hown5 hb5 c12
   go_wp2_with fail
   refine(put_uint16 (w.heap.size+1) v5 (P++be 2 33024) n w5 (Nat.le_trans HZ2.out HB5.out.size) HO5.out hn0.1 hn0.2 (by rw[List.length_append,be_length];omega)).mono ?_
   rintro en w6 ⟨v6,rfl,hown6,hb6⟩
   have HO6:=hd0 hown6
   have HB6:=hd0 (HB5.out.trans hb6)
   have FB6:=hd0 (FB5.out.below (Nat.lt_succ_self _) hb6)
   clear hown6 hb6 c13 c14 HO5
   obtain⟨T,hT⟩:∃ T,P++be 2 33024++be 2 n=T:=⟨_,rfl⟩
   have hTl:T.length=16:=by rw[←hT];simp[be_length,hPl]
   rw[hT] at HO6
   have HT:=hd0 hT
   clear hT
   have hfin:T++be 2 xy++xd=byF x0 x1 x2 x3 x4 x5 x6 x7 x8 x9 x10 x11 true xp xv xy xd:=by
    unfold byF;rw[if_pos rfl,← HT.out,← HP.out,← HNN.out];simp only[List.append_assoc]
   have HFIN:=hd0 hfin
   clear hfin
   have FBw:=hd0 FB6.out
   have c15:=FBw.out.c 15 (.int .u16 xy) (by rw[HA.out];rfl)
   have c16:=FBw.out.c 16 (.string (bs xd)) (by rw[HA.out];rfl)
   have HPz:Hid (∀ W,Bys W (w.heap.size+1) v6 T→w.heap.size+1≤W.heap.size→Calls Tryz.prog 176 #[v6,.int .u16 xy] W fun en w'=>∃ v',en=.returned v'∧Bys w' (w.heap.size+1) v' (T++be 2 xy)∧Below (w.heap.size+1) W w') :=
    fun W h1 h2=>put_uint16 (w.heap.size+1) _ T xy W h2 h1 HWY.out.1 HWY.out.2 (by rw[hTl];omega)
   have hadd:=run_add_bs (T++be 2 xy) xd (by rw[List.length_append,hTl,be_length];omega)
   go_wp2_with fail
   go_region_law (first
    |(go_simp;go_at_call 176;refine(HPz.out w6.drew HO6.out (Nat.le_trans HZ2.out HB6.out.size)).mono ?_;rintro en wz ⟨vz,rfl,hownz,hbz⟩;have hstr:=run_string_bys hownz;have cz16:=(FBw.out.below (Nat.lt_succ_self _) (((Below.refl (w.heap.size+1) w6).drew).trans hbz)).c 16 (.string (bs xd)) (by rw[HA.out];rfl)))
   all_goals
    have HBz:=hd0 (((HB6.out.trans ((Below.refl (w.heap.size+1) w6).drew)).trans hbz))
    clear hownz hbz
   all_goals go_wp2_with fail
   all_goals refine bodyPost_ret (v:=.tuple #[.string (bs (T++be 2 xy++xd)),.int .i64 0]) (by simp[results,Tryz.results123,go_sem]) rfl ⟨by rw[HRR.out,← HFIN.out],HB2.out.trans (HBz.out.mono (Nat.le_succ _))⟩
theorem fput_any (x0 x1 x2 x3 x4 x5 x6 x7 x8 x9 x10 x11 xt xp xv xy xd)(w:World)(hw:wfF x0 x1 x2 x3 x4 x5 x6 x7 x8 x9 x10 x11 xp xv xy)(hd:xd.length≤1000000):Calls Tryz.prog 123 #[.agg #[.int .u8 x0,.int .u8 x1,.int .u8 x2,.int .u8 x3,.int .u8 x4,.int .u8 x5,.int .u8 x6,.int .u8 x7,.int .u8 x8,.int .u8 x9,.int .u8 x10,.int .u8 x11,.bool xt,.int .u8 xp,.int .u16 xv,.int .u16 xy,.string (bs xd)]] w fun en w'=>en=.returned (.tuple #[.string (bs (putF x0 x1 x2 x3 x4 x5 x6 x7 x8 x9 x10 x11 xt xp xv xy xd).1),.int .i64 (putF x0 x1 x2 x3 x4 x5 x6 x7 x8 x9 x10 x11 xt xp xv xy xd).2])∧Below w.heap.size w w' :=
 fput_A _ x0 x1 x2 x3 x4 x5 x6 x7 x8 x9 x10 x11 xt xp xv xy xd rfl w hw hd
theorem vDel_lt:∀ {V:List Vn} {k:Int},(vFind V k).isSome=true→(vDel V k).length+1≤V.length
 |[],_,h=>by cases h
 | x::r,k,h=>by
  unfold vFind at h
  unfold vDel
  rw[List.filter_cons]
  by_cases e:x.1=k
  ·rw[decide_eq_true e]
   show(List.filter _ r).length+1≤r.length+1
   exact Nat.succ_le_succ (List.length_filter_le _ _)
  ·rw[if_neg e] at h
   have ih:=vDel_lt h
   rw[decide_eq_false e]
   show(List.filter _ r).length+1+1≤r.length+1
   exact Nat.succ_le_succ ih
theorem vPut_len8 {V:List Vn}{k a b:Int}(hv:V.length≤8)(h:¬((vFind V k).isSome=false∧8≤V.length)):(vPut V (k,a,b)).length≤8:=by
 by_cases hs:(vFind V k).isSome=true
 ·have:=vDel_lt hs
  unfold vPut
  rw[vIns_len]
  show(vDel V k).length+1≤8
  omega
 ·have h2:(vFind V k).isSome=false:=by simpa using hs
  have:¬ 8≤V.length:=fun h3=>h ⟨h2,h3⟩
  have:=vPut_len V (k,a,b)
  omega
def setErr (n:Int)(V:List Vn)(k a b:Int):Int :=
 if ¬(1≤k∧k≤4094) then 2 else if a / 2 ^ n.toNat≠0 then 2 else if bits .andNot .u8 b a≠0 then 2 else if (vFind V k).isSome=false∧8≤V.length then 6 else 0
def setV (n:Int)(V:List Vn)(k a b:Int):List Vn:=if setErr n V k a b=0 then vPut V (k,a,b) else V
theorem below_only {w W:World}{p:Nat}(hb:Below w.heap.size w W):Only p w W:=⟨hb.os,hb.tape,hb.output,hb.size,fun i hi _=>hb.block i hi⟩
theorem vmay_any (k:Int)(w:World):Calls Tryz.prog 278 #[.int .u16 k] w fun en w'=>en=.returned (.bool (decide (1≤k∧k≤4094)))∧Below w.heap.size w w':=by
 obtain⟨R,hR⟩:∃ R,decide (1≤k∧k≤4094)=R:=⟨_,rfl⟩
 rw[hR]
 have HR:=hd0 hR
 clear hR
 go_enter Tryz.func278,Tryz.ntmps278
 by_cases h1:1≤k
 ·have d1:decide ((1:Int)≤k)=true:=decide_eq_true h1
  have HRR:Hid (R=decide (k≤4094)):=hd0 (by rw[←HR.out];simp[h1])
  clear h1
  go_wp2
  go_ret
  exact⟨by rw[HRR.out];rfl,Below.refl _ _⟩
 ·have d1:decide ((1:Int)≤k)=false:=decide_eq_false h1
  have HRR:Hid (R=false):=hd0 (by rw[←HR.out];simp[h1])
  clear h1
  go_wp2
  go_ret
  exact⟨by rw[HRR.out];rfl,Below.refl _ _⟩
theorem vthere_any (a:Int)(b q m:Nat)(n:Int)(o:List Int)(w:World)(hc:w.cell? ⟨b,0,none⟩=some (.pointer (some ⟨q,0,none⟩)))(ht:TB w q n m o)(hn:1≤n∧n≤8)(ha:0≤a∧a<256) :
  Calls Tryz.prog 277 #[.int .u8 a,.pointer (some ⟨b,0,none⟩)] w fun en w'=>en=.returned (.bool (a / 2 ^ n.toNat==0))∧w=w':=by
 have c0:=ht.c0
 have n0:(0:Int)≤n:=by omega
 have n64:n≤64:=by omega
 go_enter Tryz.func277,Tryz.ntmps277
 go_wp2
 go_ret
 exact⟨rfl,rfl⟩
theorem vnew_any (n:Int)(w:World)(hn:1≤n∧n≤8):Calls Tryz.prog 85 #[.int .i64 n] w fun en w' =>
  ∃ q m:Nat,en=.returned (.tuple #[.pointer (some ⟨q,0,none⟩),.int .i64 0])∧TS w' q n m [0,0,0,0,0,0,0,0] []∧Below w.heap.size w w'∧w.heap.size≤q∧w.heap.size≤m:=by
 have d1:decide (n<1)=false:=decide_eq_false (by omega)
 have d8:decide ((8:Int)<n)=false:=decide_eq_false (by omega)
 have run0:(Instr.makeMap 289 none).run Tryz.prog w=.ok (.map (some w.heap.size)) (w.alloc (.map #[] 0)):=rfl
 have hb:Below w.heap.size w ((w.alloc (.map #[] 0)).alloc (.cells (tabA n w.heap.size [0,0,0,0,0,0,0,0]) 292)):=(bAo _).alloc (by simp) _
 have ht:TB ((w.alloc (.map #[] 0)).alloc (.cells (tabA n w.heap.size [0,0,0,0,0,0,0,0]) 292)) (w.heap.size+1) n w.heap.size [0,0,0,0,0,0,0,0]:=by
  have:=heap_alloc_new (w.alloc (.map #[] 0)) (.cells (tabA n w.heap.size [0,0,0,0,0,0,0,0]) 292)
  rw[show(w.alloc (.map #[] 0)).heap.size=w.heap.size+1 by simp] at this
  exact this
 have hm:VM ((w.alloc (.map #[] 0)).alloc (.cells (tabA n w.heap.size [0,0,0,0,0,0,0,0]) 292)) w.heap.size []:=(VM.made w).later (bAo _)
 have HX:=hd0 (And.intro hb (TS.mk ht hm (by omega) rfl hn (by simp) (by simp)))
 clear hb ht hm
 go_enter Tryz.func85,Tryz.ntmps85
 go_wp2
 refine bodyPost_ret (v:=.tuple #[.pointer (some ⟨w.heap.size+1,0,none⟩),.int .i64 0]) (by simp[results,Tryz.results85,go_sem]) rfl ⟨_,_,rfl,HX.out.2,HX.out.1,by omega,by omega⟩
theorem vset_any (q m:Nat)(n:Int)(o:List Int)(V:List Vn)(k a b:Int)(w:World)(hs:TS w q n m o V)(hk:0≤k∧k<65536)(ha:0≤a∧a<256)(hb:0≤b∧b<256) :
  Calls Tryz.prog 211 #[.pointer (some ⟨q,0,none⟩),.int .u16 k,.int .u8 a,.int .u8 b] w fun en w'=>en=.returned (.int .i64 (setErr n V k a b))∧TS w' q n m o (setV n V k a b)∧Only m w w':=by
 obtain⟨R,hR⟩:∃ R,setErr n V k a b=R:=⟨_,rfl⟩
 obtain⟨V',hV⟩:∃ X,setV n V k a b=X:=⟨_,rfl⟩
 rw[hR,hV]
 unfold setV at hV
 rw[hR] at hV
 unfold setErr at hR
 have HV:=hd0 hV
 have HR:=hd0 hR
 have HN:=hd0 hs.n1
 have HA:=hd0 (And.intro hk (And.intro ha hb))
 clear hV hR
 have MY:Hid (∀ w,Calls Tryz.prog 278 #[.int .u16 k] w fun en w'=>en=.returned (.bool (decide (1≤k∧k≤4094)))∧Below w.heap.size w w'):=hd0 fun w=>vmay_any k w
 go_enter Tryz.func211,Tryz.ntmps211
 go_upto_region 1 with fail
 have TS0:=hd0 (hs.later (bAo (.cells #[.pointer (some ⟨q,0,none⟩)] 231)))
 have bb:Below w.heap.size w (w.alloc (.cells #[.pointer (some ⟨q,0,none⟩)] 231)):=bAo _
 have cb:(w.alloc (.cells #[.pointer (some ⟨q,0,none⟩)] 231)).cell? ⟨w.heap.size,0,none⟩=some (.pointer (some ⟨q,0,none⟩)):=by simp only[World.cell?,heap_alloc_new];rfl
 obtain⟨w0,hw0⟩:∃ x,w.alloc (.cells #[.pointer (some ⟨q,0,none⟩)] 231)=x:=⟨_,rfl⟩
 rw[hw0] at TS0 bb cb ⊢
 have HB0:=hd0 bb
 have HLT:=hd0 (show w.heap.size<w0.heap.size by rw[←hw0];simp)
 clear hw0 hs bb
 go_wp2_with fail
 with_reducible refine(MY.out _).mono ?_
 rintro en w1 ⟨rfl,hb1⟩
 have TS1:=hd0 (TS0.out.later hb1)
 have HB1:=hd0 (HB0.out.trans (hb1.mono HB0.out.size))
 have cb1:w1.cell? ⟨w.heap.size,0,none⟩=some (.pointer (some ⟨q,0,none⟩)):=(hb1.cell (p:=⟨w.heap.size,0,none⟩) HLT.out).trans cb
 clear hb1 cb TS0 HB0
 by_cases h1:1≤k∧k≤4094
 rotate_left
 ·have d1:decide (1≤k∧k≤4094)=false:=decide_eq_false h1
  have hR2:R=2:=by rw[←HR.out,if_pos h1]
  have hV2:V'=V:=by rw[←HV.out,hR2];rfl
  have HR2:=hd0 hR2
  have HV2:=hd0 hV2
  clear h1 hR2 hV2
  go_wp2
  go_ret
  exact⟨by rw[HR2.out];rfl,by rw[HV2.out];exact TS1.out,below_only HB1.out⟩
 have d1:decide (1≤k∧k≤4094)=true:=decide_eq_true h1
 have HR1:=hd0 (by have h:=HR.out;rw[if_neg (not_not_intro h1)] at h;exact h)
 clear h1 HR
 go_wp2_with fail
 with_reducible refine(vthere_any a w.heap.size q m n o w1 cb1 TS1.out.tb HN.out HA.out.2.1).mono ?_
 rintro en _ ⟨rfl,rfl⟩
 by_cases h2:a / 2 ^ n.toNat=0
 rotate_left
 ·have d2:(a / 2 ^ n.toNat==0)=false:=by rw[beq_eq_false_iff_ne];exact h2
  have hR2:R=2:=by rw[←HR1.out,if_pos h2]
  have hV2:V'=V:=by rw[←HV.out,hR2];rfl
  have HR2:=hd0 hR2
  have HV2:=hd0 hV2
  clear h2 hR2 hV2
  go_wp2
  go_ret
  exact⟨by rw[HR2.out];rfl,by rw[HV2.out];exact TS1.out,below_only HB1.out⟩
 have d2:(a / 2 ^ n.toNat==0)=true:=by rw[h2];rfl
 have HR3:=hd0 (by have h:=HR1.out;rw[if_neg (not_not_intro h2)] at h;exact h)
 clear h2 HR1
 by_cases h3:bits .andNot .u8 b a=0
 rotate_left
 ·have d3:(bits .andNot .u8 b a != 0)=true:=by rw[bne_iff_ne];exact h3
  have hR2:R=2:=by rw[←HR3.out,if_pos h3]
  have hV2:V'=V:=by rw[←HV.out,hR2];rfl
  have HR2:=hd0 hR2
  have HV2:=hd0 hV2
  clear h3 hR2 hV2
  go_wp2
  go_ret
  exact⟨by rw[HR2.out];rfl,by rw[HV2.out];exact TS1.out,below_only HB1.out⟩
 have d3:(bits .andNot .u8 b a != 0)=false:=by rw[h3];rfl
 have HR4:=hd0 (by have h:=HR3.out;rw[if_neg (not_not_intro h3)] at h;exact h)
 clear h3 HR3
 obtain⟨S,hS⟩:∃ S,(vFind V k).isSome=S:=⟨_,rfl⟩
 have lk:=TS1.out.vm.look k HA.out.1
 rw[hS] at lk
 obtain⟨e1,he1⟩:∃ x,(vGet V k).1=x:=⟨_,rfl⟩
 obtain⟨e2,he2⟩:∃ x,(vGet V k).2=x:=⟨_,rfl⟩
 rw[he1,he2] at lk
 have HSS:=hd0 hS
 have c1:=TS1.out.tb.c1
 clear he1 he2 hS
 go_upto_region 7 with fail
 have bb:Below w1.heap.size w1 (w1.alloc (.cells #[.int .u8 e1,.int .u8 e2] 472)):=bAo _
 have TS2:=hd0 (TS1.out.later bb)
 have HB2:=hd0 (HB1.out.trans (bb.mono HB1.out.size))
 have cb2:(w1.alloc (.cells #[.int .u8 e1,.int .u8 e2] 472)).cell? ⟨w.heap.size,0,none⟩=some (.pointer (some ⟨q,0,none⟩)):=(bb.cell (p:=⟨w.heap.size,0,none⟩) (World.block_lt_of_cell? _ _ cb1)).trans cb1
 obtain⟨w2,hw2⟩:∃ x,w1.alloc (.cells #[.int .u8 e1,.int .u8 e2] 472)=x:=⟨_,rfl⟩
 rw[hw2] at TS2 HB2 cb2 ⊢
 clear bb hw2 c1 lk cb1 TS1 HB1 d1 d2 d3
 have c1:=TS2.out.tb.c1
 have ln:=fun ty=>TS2.out.vm.len ty
 obtain⟨w3,run,vm3,hg⟩:=TS2.out.vm.update (by have:=TS2.out.vl;omega) k a b HA.out.1 HA.out.2.1 HA.out.2.2
 have HZ:Hid (R=0→TS w3 q n m o V'∧Only m w w3):=hd0 fun hR0=>by
  have h4:=HR4.out
  rw[hR0] at h4
  have hc:¬((vFind V k).isSome=false∧8≤V.length):=fun hc=>by rw[if_pos hc] at h4;exact absurd h4 (by decide)
  have hv:=HV.out
  rw[if_pos hR0] at hv
  have t:=TS2.out
  refine⟨⟨t.tb.blk (hg.block q t.tb.lt (by intro e;injection e with e;exact t.ne e)),by rw[←hv];exact vm3,t.ne,t.ol,t.n1,by rw[←hv];exact vPut_len8 t.vl hc,t.ow⟩,(below_only HB2.out).trans hg⟩
 cases S with
 | true =>
  have hR0:R=0:=by rw[←HR4.out,if_neg (by rw[HSS.out];rintro ⟨h,_⟩;cases h)]
  have HR0:=hd0 hR0
  clear hR0 hg vm3
  go_wp2
  go_ret
  exact⟨by rw[HR0.out];rfl,(HZ.out HR0.out).1,(HZ.out HR0.out).2⟩
 | false =>
  by_cases h8:8≤V.length
  ·have d8:decide ((8:Int)≤(V.length:Int))=true:=decide_eq_true (by omega)
   have hR6:R=6:=by rw[←HR4.out,if_pos ⟨HSS.out,h8⟩]
   have hV2:V'=V:=by rw[←HV.out,hR6];rfl
   have HR6:=hd0 hR6
   have HV2:=hd0 hV2
   clear h8 hR6 hV2 hg vm3
   go_wp2
   go_ret
   exact⟨by rw[HR6.out];rfl,by rw[HV2.out];exact TS2.out,below_only HB2.out⟩
  ·have d8:decide ((8:Int)≤(V.length:Int))=false:=decide_eq_false (by omega)
   have hR0:R=0:=by rw[←HR4.out,if_neg (fun h=>h8 h.2)]
   have HR0:=hd0 hR0
   clear h8 hR0 hg vm3
   go_wp2
   go_ret
   exact⟨by rw[HR0.out];rfl,(HZ.out HR0.out).1,(HZ.out HR0.out).2⟩
def ownErr (n:Int)(p:Nat)(k:Int):Int:=if n≤(p:Int) then 2 else if 4094<k then 2 else 0
def ownO (n:Int)(o:List Int)(p:Nat)(k:Int):List Int:=if ownErr n p k=0 then o.set p k else o
theorem vsetOwn_any (q m:Nat)(n:Int)(o:List Int)(V:List Vn)(p:Nat)(k:Int)(w:World)(hs:TS w q n m o V)(hp:p<256)(hk:0≤k∧k<65536) :
  Calls Tryz.prog 213 #[.pointer (some ⟨q,0,none⟩),.int .u8 (p:Int),.int .u16 k] w fun en w'=>en=.returned (.int .i64 (ownErr n p k))∧TS w' q n m (ownO n o p k) V∧Only q w w':=by
 obtain⟨R,hR⟩:∃ R,ownErr n p k=R:=⟨_,rfl⟩
 obtain⟨o',ho⟩:∃ X,ownO n o p k=X:=⟨_,rfl⟩
 rw[hR,ho]
 unfold ownO at ho
 rw[hR] at ho
 unfold ownErr at hR
 have HO:=hd0 ho
 have HR:=hd0 hR
 have TS0:=hd0 hs
 have HK:=hd0 hk
 have c0:=hs.tb.c0
 clear hR ho hs hk
 go_enter Tryz.func213,Tryz.ntmps213
 by_cases h1:n≤(p:Int)
 ·have d1:decide (n≤(p:Int))=true:=decide_eq_true h1
  have hR2:R=2:=by rw[←HR.out,if_pos h1]
  have hO2:o'=o:=by rw[←HO.out,hR2];rfl
  have HR2:=hd0 hR2
  have HO2:=hd0 hO2
  clear h1 hR2 hO2
  go_wp2
  go_ret
  exact⟨by rw[HR2.out];rfl,by rw[HO2.out];exact TS0.out,Only.refl _ _⟩
 have d1:decide (n≤(p:Int))=false:=decide_eq_false h1
 have hp8:p<8:=by have:=TS0.out.n1;omega
 have HR1:=hd0 (by have h:=HR.out;rw[if_neg h1] at h;exact h)
 clear h1 HR
 by_cases h2:4094<k
 ·have d2:decide ((4094:Int)<k)=true:=decide_eq_true h2
  have hR2:R=2:=by rw[←HR1.out,if_pos h2]
  have hO2:o'=o:=by rw[←HO.out,hR2];rfl
  have HR2:=hd0 hR2
  have HO2:=hd0 hO2
  clear h2 hR2 hO2
  go_wp2
  go_ret
  exact⟨by rw[HR2.out];rfl,by rw[HO2.out];exact TS0.out,Only.refl _ _⟩
 have d2:decide ((4094:Int)<k)=false:=decide_eq_false h2
 have hR0:R=0:=by rw[←HR1.out,if_neg h2]
 have hO2:o'=o.set p k:=by rw[←HO.out,if_pos hR0]
 have HR0:=hd0 hR0
 have HO2:=hd0 hO2
 clear h2 hR0 hO2 HR1
 obtain⟨x,hx,_,_⟩:=TS0.out.own p hp8
 have cp:=TS0.out.tb.co p x hx
 have fp:=TS0.out.tb.fr (2+p)
 have p0:(0:Int)≤(p:Int):=by omega
 have p8:(p:Int)<8:=by omega
 clear hx
 go_wp2
 go_ret
 refine⟨by rw[HR0.out];rfl,?_,Only.set q w (2+p) _⟩
 have t:=TS0.out
 refine⟨by rw[HO2.out];exact t.tb.set p k,t.vm.blk (Below.heap_setCell _ _ _ _ (by intro e;simp at e;exact t.ne e.symm)),t.ne,by rw[HO2.out,List.length_set];exact t.ol,t.n1,t.vl,fun x hx=>?_⟩
 rw[HO2.out] at hx
 rcases List.mem_or_eq_of_mem_set hx with h|h
 ·exact t.ow x h
 ·rw[h];exact HK.out
end Go.Proofs.YtghaobakpdninaaGreatDoor
