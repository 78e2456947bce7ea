/- ZQ03 -/
import Derived.Test.YtlkdfofpnmpidaaGreatZQ02
import Derived.Deep.Slices
import Derived.Deep.Onto
import Derived.Deep.LoopGhost
import Derived.Deep.CutBlock
import Derived.Laws.RangeAny
set_option linter.unusedVariables false
set_option linter.unusedSimpArgs false
set_option maxRecDepth 100000
set_option maxHeartbeats 16000000
namespace Go.Proofs.YtlkdfofpnmpidaaGreat
open Go.RowKit
open Go.ChangeShapes Go.WideShapes Go.ChangeAt Go.RowKit Go.Deep
open Go.ChangeMaps (open_string shut_string)
abbrev Th:=UInt8 × List UInt8
def thV (x:Th):List Value:=[.int .u8 (x.1.toNat:Int),.string (bs x.2)]
def Tls (w:World)(v:Value)(l:List Th):Prop :=
 (v=.slice none 0 0∧l=[])∨∃ ad c,v=.slice (some ad) l.length c∧(l=[]∨∃ b off,ad=⟨b,off,none⟩∧∀ j (hj:j<l.length),w.cell? ⟨b,off+j*2,none⟩=some (.int .u8 (l[j].1.toNat:Int))∧w.cell? ⟨b,off+j*2+1,none⟩=some (.string (bs l[j].2)))
theorem Tls.later {w w':World}{v:Value}{l:List Th}(h:Tls w v l)(hb:Below w.heap.size w w'):Tls w' v l:=by
 rcases h with h|⟨ad,c,h1,h0|⟨b,off,h3,h2⟩⟩
 ·exact .inl h
 ·exact .inr ⟨ad,c,h1,.inl h0⟩
 ·exact .inr ⟨ad,c,h1,.inr ⟨b,off,h3,fun j hj=>⟨(hb.cell (World.block_lt_of_cell? w _ (h2 j hj).1)).trans (h2 j hj).1,(hb.cell (World.block_lt_of_cell? w _ (h2 j hj).2)).trans (h2 j hj).2⟩⟩⟩
theorem Tls.nil (w:World):Tls w (.slice none 0 0) []:=.inl ⟨rfl,rfl⟩
theorem Tls.shape {w:World}{v:Value}{l:List Th}(h:Tls w v l):∃ a c,v=.slice a l.length c∧(l=[]∨∃ b off,a=some ⟨b,off,none⟩∧∀ j (hj:j<l.length),w.cell? ⟨b,off+j*2,none⟩=some (.int .u8 (l[j].1.toNat:Int))∧w.cell? ⟨b,off+j*2+1,none⟩=some (.string (bs l[j].2))):=by
 rcases h with⟨h1,h2⟩|⟨ad,c,h1,h0|⟨b,off,h3,h2⟩⟩
 ·exact⟨none,0,by rw[h1,h2];rfl,.inl h2⟩
 ·exact⟨_,c,h1,.inl h0⟩
 ·exact⟨_,c,h1,.inr ⟨b,off,by rw[h3],h2⟩⟩
theorem thV_len (l:List Th):(l.flatMap thV).length=l.length*2:=by
 induction l with
 | nil=>rfl
 | cons x l ih=>simp[thV,ih];omega
theorem thV_get0:∀ (l:List Th)(j:Nat)(h:j<l.length),(l.flatMap thV)[j*2]?=some (.int .u8 (l[j].1.toNat:Int))
 | x::l,0,_=>rfl
 | x::l,j+1,h=>by
  have ih:=thV_get0 l j (by simpa using h)
  rw[List.flatMap_cons,show(j+1)*2=j*2+2 by omega]
  simpa [thV] using ih
theorem thV_get1:∀ (l:List Th)(j:Nat)(h:j<l.length),(l.flatMap thV)[j*2+1]?=some (.string (bs l[j].2))
 | x::l,0,_=>rfl
 | x::l,j+1,h=>by
  have ih:=thV_get1 l j (by simpa using h)
  rw[List.flatMap_cons,show(j+1)*2+1=j*2+1+2 by omega]
  simpa [thV] using ih
theorem info_T:(Tryz.prog.info? 182).map (fun i=>(i.zero,i.size,i.bytes))=some (some (.agg #[.int .u8 0,.string { data:=#[] }]),2,24):=by kernel_rfl
def TlT (w:World)(B:Nat)(v:Value)(l:List Th):Prop:=w.ownsRow B 182 2 v l.length (l.flatMap thV)
theorem TlT.none (w:World)(B:Nat):TlT w B (.slice none 0 0) []:=World.ownsRow_nil w B _ 2
theorem TlT.mono {w:World}{B B':Nat}{v:Value}{l:List Th}(h:TlT w B v l)(hb:B'≤B):TlT w B' v l:=World.ownsRow.mono h hb
theorem TlT.later {w w':World}{B:Nat}{v:Value}{l:List Th}(h:TlT w B v l)(hb:Below w.heap.size w w'):TlT w' B v l:=by
 obtain⟨h1,h2⟩:=h
 refine⟨h1,?_⟩
 rcases h2 with h2|⟨g,cap,cur,hv,hg,hh,r⟩
 ·exact .inl h2
 ·refine .inr ⟨g,cap,cur,hv,hg,?_,r⟩
  have hlt:g<w.heap.size:=by
   rcases Nat.lt_or_ge g w.heap.size with h|h
   ·exact h
   ·rw[Array.getElem?_eq_none h] at hh;cases hh
  rw[hb.block g hlt];exact hh
theorem TlT.tls {w:World}{B:Nat}{v:Value}{l:List Th}(h:TlT w B v l):Tls w v l:=by
 obtain⟨h1,h2⟩:=h
 rcases h2 with⟨h2,h3⟩|⟨g,cap,cur,hv,hg,hh,hr⟩
 ·exact .inl ⟨h2,List.eq_nil_of_length_eq_zero h3⟩
 ·subst hv
  have hc:w.ownsRow B 182 2 (.slice (some ⟨g,0,Option.none⟩) l.length cap) l.length (l.flatMap thV):=⟨h1,.inr ⟨g,cap,cur,rfl,hg,hh,hr⟩⟩
  refine .inr ⟨⟨g,0,Option.none⟩,cap,rfl,.inr ⟨g,0,rfl,fun j hj=>⟨?_,?_⟩⟩⟩
  ·rw[Nat.zero_add,World.ownsRow.cellAt hc (j*2) (by omega)];exact thV_get0 l j hj
  ·rw[Nat.zero_add,World.ownsRow.cellAt hc (j*2+1) (by omega)];exact thV_get1 l j hj
theorem TlT.lit (w:World)(B:Nat)(x:Th)(hB:B≤w.heap.size):TlT (w.alloc (.cells #[.int .u8 (x.1.toNat:Int),.string (bs x.2)] 182)) B (.slice (some ⟨w.heap.size,0,Option.none⟩) 1 1) [x] :=
 World.ownsRow_lit w #[.int .u8 (x.1.toNat:Int),.string (bs x.2)] 1 hB (by decide) rfl
section
variable {w:World} {ops:Array Oper} {rest:List Oper} {o:Oper} {a:Act} {Q:Exit→Act→World→Prop} {K:Act→World→Prop}
theorem wp_append_T (s x:Operand)(ho:o.op=.call { callee:=.builtin .append,args:=#[s,x],argTypes:=#[101,101] })
  (B:Nat) (v:Value) (l:List Th) (hs:a.eval s=v) (hown:TlT w B v l) (u:Value) (t:List Th) (hx:a.eval x=u) (hsrc:Tls w u t)
  (hsz:l.length+t.length≤1000000000000) (hB:B≤w.heap.size)
  (h:∀ v' w',TlT w' B v' (l++t)→Below B w w'→K (a.put o.dst v') w'):o.wp Tryz.prog a w K Q:=by
 obtain⟨i,hi,hz0,hz1,hz2⟩:=info_parts info_T
 rcases hsrc with⟨rfl,rfl⟩|⟨ad,c,rfl,hc⟩
 ·have hrun:=run_append_owned_none (P:=Tryz.prog) w B 101 o.type 182 i 2 Tryz.underlying101 hi v l.length (l.flatMap thV) hown
  unfold Oper.wp
  simp[execOp,ho,resolve,invoke,builtin,hs,hx,hrun,Result.andThen]
  exact h _ _ (by simpa using hown) (Below.refl _ _)
 ·refine wp_append_own w s x 101 ho B 182 i (.agg #[.int .u8 0,.string { data:=#[] }]) 2 24 Tryz.underlying101 hi hz0 hz1 hz2 rfl (by decide) v l.length (l.flatMap thV) hs hown ad t.length c (t.flatMap thV) hx (thV_len t)
   (fun j u hj=>?_) (fun u hu=>?_) (by unfold maxLen;omega) (by omega) hB (fun v' w' h1 h2 _=>?_)
  ·have hj':j<t.length*2:=by have:=(List.getElem?_eq_some_iff.1 hj).1;rw[thV_len] at this;exact this
   rcases hc with rfl|⟨b,off,rfl,hc⟩
   ·simp at hj'
   rw[add_plain]
   rcases Nat.mod_two_eq_zero_or_one j with h0|h0
   ·have e:j=j / 2*2:=by omega
    rw[e] at hj ⊢
    rw[thV_get0 t (j / 2) (by omega)] at hj
    exact(hc (j / 2) (by omega)).1.trans hj
   ·have e:j=j / 2*2+1:=by omega
    rw[e] at hj ⊢
    rw[thV_get1 t (j / 2) (by omega)] at hj
    exact(hc (j / 2) (by omega)).2.trans hj
  ·obtain⟨y,_,hy⟩:=List.mem_flatMap.1 hu
   simp[thV] at hy
   rcases hy with rfl|rfl <;> rfl
  ·refine h v' w' ?_ ((Below.refl _ _).grown h2 hB (fun k hk=>(World.ownsRow.lt hown k hk).1))
   unfold TlT
   rw[List.length_append,List.flatMap_append];exact h1
theorem wpList_append_T (hgd:o.guard=Option.none)(s x:Operand)(ho:o.op=.call { callee:=.builtin .append,args:=#[s,x],argTypes:=#[101,101] })
  (B:Nat) (v:Value) (l:List Th) (hs:a.eval s=v) (hown:TlT w B v l) (u:Value) (t:List Th) (hx:a.eval x=u) (hsrc:Tls w u t)
  (hsz:l.length+t.length≤1000000000000) (hB:B≤w.heap.size)
  (h:∀ v' w',TlT w' B v' (l++t)→Below B w w'→wpList Tryz.prog ops Q rest (a.put o.dst v') w'):wpList Tryz.prog ops Q (o::rest) a w :=
 wpList_plain hgd fun K hK=>wp_append_T s x ho B v l hs hown u t hx hsrc hsz hB fun v' w' h1 h2=>hK _ _ (h v' w' h1 h2)
theorem step_append_T {E:Prop}(hgd:o.guard=Option.none)(s x:Operand)(ho:o.op=.call { callee:=.builtin .append,args:=#[s,x],argTypes:=#[101,101] })
  (B:Nat) (v:Value) (l:List Th) (hs:a.eval s=v) (hown:TlT w B v l) (u:Value) (t:List Th) (hx:a.eval x=u) (hsrc:Tls w u t)
  (hsz:l.length+t.length≤1000000000000) (hB:B≤w.heap.size)
  (h:∀ v' w',TlT w' B v' (l++t)→Below B w w'→K (a.put o.dst v') w'):if Region.wanted o (yielded ops a.tmps)=true then Oper.wp Tryz.prog o a w K Q else E:=by
 rw[if_pos (by simp[Region.wanted,hgd])]
 exact wp_append_T s x ho B v l hs hown u t hx hsrc hsz hB h
end
theorem info_R:(Tryz.prog.info? 187).map (fun i=>(i.zero,i.size,i.bytes))=some (some (.agg #[.int .u8 0,.string { data:=#[] }]),2,24):=by kernel_rfl
def TlR (w:World)(B:Nat)(v:Value)(l:List Th):Prop:=w.ownsRow B 187 2 v l.length (l.flatMap thV)
theorem TlR.none (w:World)(B:Nat):TlR w B (.slice none 0 0) []:=World.ownsRow_nil w B _ 2
theorem TlR.mono {w:World}{B B':Nat}{v:Value}{l:List Th}(h:TlR w B v l)(hb:B'≤B):TlR w B' v l:=World.ownsRow.mono h hb
theorem TlR.later {w w':World}{B:Nat}{v:Value}{l:List Th}(h:TlR w B v l)(hb:Below w.heap.size w w'):TlR w' B v l:=by
 obtain⟨h1,h2⟩:=h
 refine⟨h1,?_⟩
 rcases h2 with h2|⟨g,cap,cur,hv,hg,hh,r⟩
 ·exact .inl h2
 ·refine .inr ⟨g,cap,cur,hv,hg,?_,r⟩
  have hlt:g<w.heap.size:=by
   rcases Nat.lt_or_ge g w.heap.size with h|h
   ·exact h
   ·rw[Array.getElem?_eq_none h] at hh;cases hh
  rw[hb.block g hlt];exact hh
theorem TlR.tls {w:World}{B:Nat}{v:Value}{l:List Th}(h:TlR w B v l):Tls w v l:=by
 obtain⟨h1,h2⟩:=h
 rcases h2 with⟨h2,h3⟩|⟨g,cap,cur,hv,hg,hh,hr⟩
 ·exact .inl ⟨h2,List.eq_nil_of_length_eq_zero h3⟩
 ·subst hv
  have hc:w.ownsRow B 187 2 (.slice (some ⟨g,0,Option.none⟩) l.length cap) l.length (l.flatMap thV):=⟨h1,.inr ⟨g,cap,cur,rfl,hg,hh,hr⟩⟩
  refine .inr ⟨⟨g,0,Option.none⟩,cap,rfl,.inr ⟨g,0,rfl,fun j hj=>⟨?_,?_⟩⟩⟩
  ·rw[Nat.zero_add,World.ownsRow.cellAt hc (j*2) (by omega)];exact thV_get0 l j hj
  ·rw[Nat.zero_add,World.ownsRow.cellAt hc (j*2+1) (by omega)];exact thV_get1 l j hj
theorem TlR.lit (w:World)(B:Nat)(x:Th)(hB:B≤w.heap.size):TlR (w.alloc (.cells #[.int .u8 (x.1.toNat:Int),.string (bs x.2)] 187)) B (.slice (some ⟨w.heap.size,0,Option.none⟩) 1 1) [x] :=
 World.ownsRow_lit w #[.int .u8 (x.1.toNat:Int),.string (bs x.2)] 1 hB (by decide) rfl
section
variable {w:World} {ops:Array Oper} {rest:List Oper} {o:Oper} {a:Act} {Q:Exit→Act→World→Prop} {K:Act→World→Prop}
theorem wp_append_R (s x:Operand)(ho:o.op=.call { callee:=.builtin .append,args:=#[s,x],argTypes:=#[113,113] })
  (B:Nat) (v:Value) (l:List Th) (hs:a.eval s=v) (hown:TlR w B v l) (u:Value) (t:List Th) (hx:a.eval x=u) (hsrc:Tls w u t)
  (hsz:l.length+t.length≤1000000000000) (hB:B≤w.heap.size)
  (h:∀ v' w',TlR w' B v' (l++t)→Below B w w'→K (a.put o.dst v') w'):o.wp Tryz.prog a w K Q:=by
 obtain⟨i,hi,hz0,hz1,hz2⟩:=info_parts info_R
 rcases hsrc with⟨rfl,rfl⟩|⟨ad,c,rfl,hc⟩
 ·have hrun:=run_append_owned_none (P:=Tryz.prog) w B 113 o.type 187 i 2 Tryz.underlying113 hi v l.length (l.flatMap thV) hown
  unfold Oper.wp
  simp[execOp,ho,resolve,invoke,builtin,hs,hx,hrun,Result.andThen]
  exact h _ _ (by simpa using hown) (Below.refl _ _)
 ·refine wp_append_own w s x 113 ho B 187 i (.agg #[.int .u8 0,.string { data:=#[] }]) 2 24 Tryz.underlying113 hi hz0 hz1 hz2 rfl (by decide) v l.length (l.flatMap thV) hs hown ad t.length c (t.flatMap thV) hx (thV_len t)
   (fun j u hj=>?_) (fun u hu=>?_) (by unfold maxLen;omega) (by omega) hB (fun v' w' h1 h2 _=>?_)
  ·have hj':j<t.length*2:=by have:=(List.getElem?_eq_some_iff.1 hj).1;rw[thV_len] at this;exact this
   rcases hc with rfl|⟨b,off,rfl,hc⟩
   ·simp at hj'
   rw[add_plain]
   rcases Nat.mod_two_eq_zero_or_one j with h0|h0
   ·have e:j=j / 2*2:=by omega
    rw[e] at hj ⊢
    rw[thV_get0 t (j / 2) (by omega)] at hj
    exact(hc (j / 2) (by omega)).1.trans hj
   ·have e:j=j / 2*2+1:=by omega
    rw[e] at hj ⊢
    rw[thV_get1 t (j / 2) (by omega)] at hj
    exact(hc (j / 2) (by omega)).2.trans hj
  ·obtain⟨y,_,hy⟩:=List.mem_flatMap.1 hu
   simp[thV] at hy
   rcases hy with rfl|rfl <;> rfl
  ·refine h v' w' ?_ ((Below.refl _ _).grown h2 hB (fun k hk=>(World.ownsRow.lt hown k hk).1))
   unfold TlR
   rw[List.length_append,List.flatMap_append];exact h1
theorem wpList_append_R (hgd:o.guard=Option.none)(s x:Operand)(ho:o.op=.call { callee:=.builtin .append,args:=#[s,x],argTypes:=#[113,113] })
  (B:Nat) (v:Value) (l:List Th) (hs:a.eval s=v) (hown:TlR w B v l) (u:Value) (t:List Th) (hx:a.eval x=u) (hsrc:Tls w u t)
  (hsz:l.length+t.length≤1000000000000) (hB:B≤w.heap.size)
  (h:∀ v' w',TlR w' B v' (l++t)→Below B w w'→wpList Tryz.prog ops Q rest (a.put o.dst v') w'):wpList Tryz.prog ops Q (o::rest) a w :=
 wpList_plain hgd fun K hK=>wp_append_R s x ho B v l hs hown u t hx hsrc hsz hB fun v' w' h1 h2=>hK _ _ (h v' w' h1 h2)
theorem step_append_R {E:Prop}(hgd:o.guard=Option.none)(s x:Operand)(ho:o.op=.call { callee:=.builtin .append,args:=#[s,x],argTypes:=#[113,113] })
  (B:Nat) (v:Value) (l:List Th) (hs:a.eval s=v) (hown:TlR w B v l) (u:Value) (t:List Th) (hx:a.eval x=u) (hsrc:Tls w u t)
  (hsz:l.length+t.length≤1000000000000) (hB:B≤w.heap.size)
  (h:∀ v' w',TlR w' B v' (l++t)→Below B w w'→K (a.put o.dst v') w'):if Region.wanted o (yielded ops a.tmps)=true then Oper.wp Tryz.prog o a w K Q else E:=by
 rw[if_pos (by simp[Region.wanted,hgd])]
 exact wp_append_R s x ho B v l hs hown u t hx hsrc hsz hB h
end
section
variable {w:World} {ops:Array Oper} {o:Oper} {a:Act} {Q:Exit→Act→World→Prop} {K:Act→World→Prop}
end
theorem src_one (W:World)(x:Int)(h:0≤x∧x<256)(T:TypeId):Src (W.alloc (.cells #[.int .u8 x] T)) (.slice (some ⟨W.heap.size,0,Option.none⟩) 1 1) [UInt8.ofNat x.toNat]:=by
 refine .inr ⟨⟨W.heap.size,0,Option.none⟩,1,rfl,fun j hj=>?_⟩
 obtain rfl:j=0:=by simpa using hj
 have e:(UInt8.ofNat x.toNat).toNat=x.toNat:=by simp;omega
 simp[Addr.add,byteV,e,Int.toNat_of_nonneg h.1]
def okT (x:Th):Int:=if x.1=0 then 2 else if 1480<x.2.length then 5 else 0
def thB (x:Th):List UInt8:=x.1::(be 2 (x.2.length:Int)++x.2)
def putT:List Th→List UInt8 × Int
 |[]=>([0],0)
 | x::l=>if okT x=0 then(if (putT l).2=0 then(thB x++(putT l).1,0) else([],(putT l).2)) else([],okT x)
theorem putT_all:∀ l:List Th,(∀ x∈l,okT x=0)→putT l=(l.flatMap thB++[0],0)
 |[],_=>rfl
 | x::l,h=>by
  have ih:=putT_all l (fun y hy=>h y (List.mem_cons_of_mem _ hy))
  unfold putT;rw[if_pos (h x (List.mem_cons_self ..)),ih,if_pos rfl];simp
theorem putT_at:∀ (l:List Th)(k:Nat)(hk:k<l.length),(∀ x∈l.take k,okT x=0)→okT l[k]≠0→putT l=([],okT l[k])
 | x::l,0,_,_,hf=>by
  have hf':okT x≠0:=hf
  unfold putT;rw[if_neg hf'];rfl
 | x::l,k+1,hk,h,hf=>by
  have ih:=putT_at l k (by simpa using hk) (fun y hy=>h y (by simp[hy])) hf
  have hf':okT (l[k]'(by simpa using hk))≠0:=hf
  unfold putT;rw[if_pos (h x (by simp)),ih];show(if okT _=0 then _ else _)=_;rw[if_neg hf'];rfl
def PB (T:TypeId)(W:World)(q:Nat)(a b c:Int)(f:List UInt8)(v:Value):Prop:=W.heap[q]?=some (.cells #[.int .u8 a,.int .u8 b,.int .u8 c,.string (bs f),v] T (0,0))
section
variable {T:TypeId} {W W':World} {q:Nat} {a b c:Int} {f:List UInt8} {v:Value}
theorem PB.lt (h:PB T W q a b c f v):q<W.heap.size:=by
 rcases Nat.lt_or_ge q W.heap.size with h1|h1
 ·exact h1
 ·unfold PB at h;rw[Array.getElem?_eq_none h1] at h;cases h
theorem PB.later (h:PB T W q a b c f v)(hb:Below W.heap.size W W'):PB T W' q a b c f v:=by
 unfold PB;rw[hb.block q h.lt];exact h
theorem PB.below {B:Nat}(h:PB T W q a b c f v)(hq:q<B)(hb:Below B W W'):PB T W' q a b c f v:=by
 unfold PB;rw[hb.block q hq];exact h
theorem PB.c0 (h:PB T W q a b c f v):W.cell? ⟨q,0,none⟩=some (.int .u8 a):=by unfold PB at h;simp[World.cell?,h]
theorem PB.c1 (h:PB T W q a b c f v):W.cell? ⟨q,1,none⟩=some (.int .u8 b):=by unfold PB at h;simp[World.cell?,h]
theorem PB.c2 (h:PB T W q a b c f v):W.cell? ⟨q,2,none⟩=some (.int .u8 c):=by unfold PB at h;simp[World.cell?,h]
theorem PB.c3 (h:PB T W q a b c f v):W.cell? ⟨q,3,none⟩=some (.string (bs f)):=by unfold PB at h;simp[World.cell?,h]
theorem PB.c4 (h:PB T W q a b c f v):W.cell? ⟨q,4,none⟩=some v:=by unfold PB at h;simp[World.cell?,h]
theorem PB.fr (h:PB T W q a b c f v)(o:Nat):W.frozen? ⟨q,o,none⟩=false:=by unfold PB at h;simp[World.frozen?,h]
theorem PB.new (T:TypeId)(W:World)(a b c:Int)(f:List UInt8)(v:Value):PB T (W.alloc (.cells #[.int .u8 a,.int .u8 b,.int .u8 c,.string (bs f),v] T)) W.heap.size a b c f v:=heap_alloc_new W _
end
theorem iter_below (w:World)(s:ByteArray)(k:Nat):Below w.heap.size w (w.iter s k):=bA (.stringIter s k)
def plC (c:UInt8):Bool:=decide (32≤(c.toNat:Int))&&decide ((c.toNat:Int)≤126)
def plB (l:List UInt8):Bool:=l.all plC
theorem plB_take (l:List UInt8)(k:Nat)(h:k<l.length):plB (l.take (k+1))=(plB (l.take k)&&plC l[k]):=by
 unfold plB;rw[List.take_succ_eq_append_getElem h,List.all_append];simp
theorem plB_no (l:List UInt8)(k:Nat)(h:k<l.length)(hc:plC l[k]=false):plB l=false:=by
 unfold plB
 rw[List.all_eq_false]
 exact⟨l[k],List.getElem_mem h,by simp[hc]⟩
theorem plC_of (c:UInt8)(x:Int)(hx:(c.toNat:Int)=x):plC c=(decide (32≤x)&&decide (x≤126)):=by unfold plC;rw[hx]
theorem plain_any (l:List UInt8)(w:World)(hl:l.length≤9223372036854775807):Calls Tryz.prog 150 #[.string (bs l)] w fun en w'=>en=.returned (.bool (plB l))∧Below w.heap.size w w':=by
 have hs:=bs_size l
 obtain⟨R,hR⟩:∃ R,plB l=R:=⟨_,rfl⟩
 have HR:=hd0 hR
 rw[hR];clear hR
 go_enter Tryz.func150,Tryz.ntmps150
 go_wp2_with fail
 go_loopw [] (fun wr=>∃ k:Nat,k≤l.length∧wr=w.iter (bs l) k∧plB (l.take k)=true) (fun wr=>l.length-wr.iterPos w.heap.size)
 case atStart=>exact⟨0,by omega,rfl,rfl⟩
 case round =>
  obtain⟨k,hk,rfl,hp⟩:=hrel
  have HP:=hd0 hp;clear hp
  by_cases hlt:k<l.length
  ·obtain⟨x,hx⟩:∃ x:Int,(l[k].toNat:Int)=x:=⟨_,rfl⟩
   have hx0:0≤x:=by omega
   have hx1:x<256:=by have:=l[k].toNat_lt;omega
   have hk':k<(bs l).size:=by omega
   have hg:(((bs l)[k]'hk').toNat:Int)=x:=by rw[bs_get l k hk' hlt,hx]
   have hpc:=plC_of l[k] x hx
   by_cases ha:x<128
   ·have hn:∀ ty,(Instr.next (.pointer (some ⟨w.heap.size,0,none⟩)) true ty).run Tryz.prog (w.iter (bs l) k)=.ok (.tuple #[.bool true,.int .i64 k,.int .i32 x]) (w.iter (bs l) (k+1)):=fun ty=>by
     have h:=run_next_ascii (P:=Tryz.prog) w (bs l) k ty hk' (by omega)
     rw[h,hg]
    by_cases h1:x<32
    ·have d1:decide (x<32)=true:=decide_eq_true h1
     have hRf:R=false:=by
      rw[←HR.out];exact plB_no l k hlt (hpc.trans (by rw[decide_eq_false (p:=32≤x) (by omega)];rfl))
     go_wp2
     go_ret
     exact⟨by first|rfl|(rw[hRf];rfl),iter_below w (bs l) (k+1)⟩
    ·have d1:decide (x<32)=false:=decide_eq_false h1
     by_cases h2:126<x
     ·have d2:decide (126<x)=true:=decide_eq_true h2
      have hRf:R=false:=by
       rw[←HR.out];exact plB_no l k hlt (hpc.trans (by rw[decide_eq_false (p:=x≤126) (by omega)];simp))
      go_wp2
      go_ret
      exact⟨by first|rfl|(rw[hRf];rfl),iter_below w (bs l) (k+1)⟩
     ·have d2:decide (126<x)=false:=decide_eq_false h2
      have hok:plB (l.take (k+1))=true:=by
       rw[plB_take l k hlt,HP.out,Bool.true_and];exact hpc.trans (by rw[decide_eq_true (p:=32≤x) (by omega),decide_eq_true (p:=x≤126) (by omega)];rfl)
      go_wp2
      exact⟨⟨k+1,by omega,rfl,hok⟩,by simp;omega⟩
   ·have hdc:=decode_high (bs l) k hk' (by omega)
    have hde:=decode_le (bs l) k
    obtain⟨D,hD⟩:∃ D,(Utf8.decode (bs l) k).1=D:=⟨_,rfl⟩
    obtain⟨E,hE⟩:∃ E,(Utf8.decode (bs l) k).2=E:=⟨_,rfl⟩
    have hn:∀ ty,(Instr.next (.pointer (some ⟨w.heap.size,0,none⟩)) true ty).run Tryz.prog (w.iter (bs l) k)=.ok (.tuple #[.bool true,.int .i64 k,.int .i32 D]) (w.iter (bs l) (k+E)):=fun ty=>by
     have h:=run_next_any (P:=Tryz.prog) w (bs l) k ty hk'
     rw[h,hD,hE]
    rw[hD] at hdc hde
    have d1:decide ((D:Int)<32)=false:=decide_eq_false (by omega)
    have d2:decide (126<(D:Int))=true:=decide_eq_true (by omega)
    have hRf:R=false:=by
     rw[←HR.out];exact plB_no l k hlt (hpc.trans (by rw[decide_eq_false (p:=x≤126) (by omega)];simp))
    clear hD hE
    go_wp2
    go_ret
    exact⟨by first|rfl|(rw[hRf];rfl),iter_below w (bs l) (k+E)⟩
  ·have hn:∀ ty,(Instr.next (.pointer (some ⟨w.heap.size,0,none⟩)) true ty).run Tryz.prog (w.iter (bs l) k)=.ok (.tuple #[.bool false]) (w.iter (bs l) k):=fun ty=>run_next_end (P:=Tryz.prog) w (bs l) k ty (by omega)
   have hRt:R=true:=by
    rw[←HR.out,← HP.out,List.take_of_length_le (by omega)]
   go_wp2
   go_ret
   exact⟨by first|rfl|(rw[hRt];rfl),iter_below w (bs l) k⟩
theorem refName_any (l:List UInt8)(n:Bool)(w:World)(hl:l.length≤9223372036854775807):Calls Tryz.prog 109 #[.string (bs l),.bool n] w fun en w'=>en=.returned (.bool (plB l&&(n||decide (0<l.length))))∧w=w':=by
 have hs:=bs_size l
 obtain⟨R,hR⟩:∃ R,(plB l&&(n||decide (0<l.length)))=R:=⟨_,rfl⟩
 have HR:=hd0 hR
 rw[hR];clear hR
 go_enter Tryz.func109,Tryz.ntmps109
 go_wp2_with fail
 go_loop [5] (fun i=>∃ k:Nat,k≤l.length∧i=.int .i64 k∧plB (l.take k)=true) (fun i=>l.length-(intOf i).toNat)
 case atStart=>exact⟨0,by omega,rfl,rfl⟩
 case round =>
  obtain⟨k,hk,rfl,hp⟩:=hrel
  have HP:=hd0 hp;clear hp
  by_cases hlt:k<l.length
  ·have dl:decide ((k:Int)<(l.length:Int))=true:=decide_eq_true (by omega)
   obtain⟨x,hx⟩:∃ x:Int,(l[k].toNat:Int)=x:=⟨_,rfl⟩
   have hx0:0≤x:=by omega
   have hx1:x<256:=by have:=l[k].toNat_lt;omega
   have hk':k<(bs l).size:=by omega
   have hg:∀ h':k<(bs l).size,(((bs l)[k]'h').toNat:Int)=x:=fun h'=>by rw[bs_get l k h' hlt,hx]
   have hpc:=plC_of l[k] x hx
   by_cases h1:x<32
   ·have d1:decide (x<32)=true:=decide_eq_true h1
    have hRf:R=false:=by
     rw[←HR.out,plB_no l k hlt (hpc.trans (by rw[decide_eq_false (p:=32≤x) (by omega)];rfl))];rfl
    go_wp2
    go_ret
    exact⟨by first|rfl|(rw[hRf];rfl),rfl⟩
   ·have d1:decide (x<32)=false:=decide_eq_false h1
    by_cases h2:126<x
    ·have d2:decide (126<x)=true:=decide_eq_true h2
     have hRf:R=false:=by
      rw[←HR.out,plB_no l k hlt (hpc.trans (by rw[decide_eq_false (p:=x≤126) (by omega)];simp))];rfl
     go_wp2
     go_ret
     exact⟨by first|rfl|(rw[hRf];rfl),rfl⟩
    ·have d2:decide (126<x)=false:=decide_eq_false h2
     have hok:plB (l.take (k+1))=true:=by
      rw[plB_take l k hlt,HP.out,Bool.true_and];exact hpc.trans (by rw[decide_eq_true (p:=32≤x) (by omega),decide_eq_true (p:=x≤126) (by omega)];rfl)
     go_wp2
     exact⟨⟨k+1,by omega,by go_num,hok⟩,by simp[intOf];omega⟩
  ·have dl:decide ((k:Int)<(l.length:Int))=false:=decide_eq_false (by omega)
   have hpl:plB l=true:=by rw[←HP.out,List.take_of_length_le (by omega)]
   rw[hpl,Bool.true_and] at HR
   cases n with
   | true =>
    have hRt:R=true:=HR.out.symm
    go_wp2
    go_ret
    exact⟨by first|rfl|(rw[hRt];rfl),rfl⟩
   | false =>
    have hRt:R=decide (0<l.length):=by rw[←HR.out];simp
    go_wp2
    go_ret
    exact⟨by first|rfl|(rw[hRt];rfl),rfl⟩
def lenB (l:List UInt8):UInt8:=UInt8.ofNat l.length
theorem lenB_wrap (l:List UInt8):IntKind.u8.wrap (l.length:Int)=((lenB l).toNat:Int):=by
 rw[wrap_u8 _ (by omega)];unfold lenB;simp
theorem mput_any (B:Nat)(v:Value)(l t:List UInt8)(f:UInt8)(w:World)(hB:B≤w.heap.size)(hv:Bys w B v l)(hl:l.length≤1000)(ht:t.length≤1000) :
  Calls Tryz.prog 151 #[v,.int .u8 (f.toNat:Int),.string (bs t)] w fun en w'=>∃ v',en=.returned v'∧Bys w' B v' (l++f::lenB t::t)∧Below B w w':=by
 have hs:=bs_size t
 have hw:=lenB_wrap t
 obtain⟨x,hx⟩:∃ x:Int,(f.toNat:Int)=x:=⟨_,rfl⟩
 obtain⟨y,hy⟩:∃ y:Int,((lenB t).toNat:Int)=y:=⟨_,rfl⟩
 rw[hx]
 rw[hy] at hw
 have HO:=hd0 hv
 clear hv
 go_enter Tryz.func151,Tryz.ntmps151
 go_wp2_with (at_builtin;refine wpList_append_two rfl (.tmp 7) (.tmp 12) rfl B _ _ w f (lenB t) (by rw[hx,hy]) rfl HO.out rfl ?_ ?_ ?_)
 ·omega
 ·exact hB
 ·intro v1 w1 hown1 hb1
  have hz1:=hb1.size
  go_wp2_with (at_builtin;refine wpList_append_str rfl (.tmp 13) (.tmp 14) rfl B _ _ rfl hown1 t rfl ?_ ?_ ?_)
  ·simp;omega
  ·omega
  ·intro v2 w2 hown2 hb2
   have HO2:=hd0 hown2
   have HB2:=hd0 (hb1.trans hb2)
   clear hb1 hb2 hown1 hown2
   go_wp2
   go_ret
   exact⟨_,rfl,by simpa using HO2.out,HB2.out⟩
def mBody (d o:List UInt8):List UInt8:=(if d=[] then[1] else 4::lenB d::d)++2::lenB o::o
def padT (l:List UInt8):List UInt8:=l++List.replicate (48-l.length) 0
def mPut (d o:List UInt8):List UInt8 × Int :=
 if o≠[]∧plB o=true∧plB d=true then(if d.length+o.length≤44 then(padT (mBody d o),0) else([],5)) else([],2)
theorem empty_eq (l:List UInt8):(bs l).toList.isEmpty=decide (l=[]):=by rw[bs_tl];cases l <;> simp
theorem mBody_len (d o:List UInt8):(mBody d o).length=(if d=[] then 3 else d.length+4)+o.length:=by
 unfold mBody;split <;> simp <;> omega
def tkPart (l:List UInt8)(e:Int):List UInt8 × List UInt8 × Int:=rdText (rdText l e 1).2.1 (rdText l e 1).2.2 (numOf (rdText l e 1).1)
def tkDom (l:List UInt8):List UInt8 × List UInt8 × Int:=if numOf (rdText l 0 1).1=4 then tkPart (rdText l 0 1).2.1 (rdText l 0 1).2.2 else([],(rdText l 0 1).2.1,(rdText l 0 1).2.2)
def tkFmt (l:List UInt8):List UInt8 × List UInt8 × Int:=rdText (tkDom l).2.1 (tkDom l).2.2 1
def tkOwn (l:List UInt8):List UInt8 × List UInt8 × Int:=tkPart (tkFmt l).2.1 (tkFmt l).2.2
def takeR (l:List UInt8):List UInt8 × List UInt8 × Int :=
 if mPut (tkDom l).1 (tkOwn l).1=(l,0)∧numOf (tkFmt l).1=2 then((tkDom l).1,(tkOwn l).1,0) else([],[],4)
theorem tkPart_put (t r:List UInt8)(h:t.length<256):tkPart (lenB t::(t++r)) 0=(t,r,0):=by
 unfold tkPart
 rw[rd_one]
 simp only[numOf_one]
 have:((lenB t).toNat:Int)=(t.length:Int):=by unfold lenB;simp;omega
 rw[this];exact rd_exact t r
theorem mPut_ok {d o l:List UInt8}(h:mPut d o=(l,0)):o≠[]∧plB o=true∧plB d=true∧d.length+o.length≤44∧l=padT (mBody d o):=by
 unfold mPut at h
 split at h
 ·rename_i h1
  split at h
  ·rename_i h2
   exact⟨h1.1,h1.2.1,h1.2.2,h2,by simpa using (congrArg Prod.fst h).symm⟩
  ·simp at h
 ·simp at h
theorem tk_put {d o l:List UInt8}(h:mPut d o=(l,0)):(tkDom l).1=d∧numOf (tkFmt l).1=2∧(tkOwn l).1=o:=by
 obtain⟨_,_,_,hle,rfl⟩:=mPut_ok h
 have hd:tkDom (padT (mBody d o))=(d,2::lenB o::(o++List.replicate (48-(mBody d o).length) 0),0):=by
  by_cases h5:d=[]
  ·subst h5
   have e:padT (mBody [] o)=1::2::lenB o::(o++List.replicate (48-(mBody [] o).length) 0):=by
    unfold padT mBody;simp
   unfold tkDom
   rw[e,rd_one]
   simp[numOf_one]
  ·have e:padT (mBody d o)=4::lenB d::(d++(2::lenB o::(o++List.replicate (48-(mBody d o).length) 0))):=by
    unfold padT mBody;simp[h5]
   unfold tkDom
   rw[e,rd_one]
   simp only[numOf_one]
   exact tkPart_put d _ (by omega)
 have hf:tkFmt (padT (mBody d o))=([2],lenB o::(o++List.replicate (48-(mBody d o).length) 0),0):=by
  unfold tkFmt;rw[hd];exact rd_one _ _
 refine⟨by rw[hd],by rw[hf];rfl,?_⟩
 unfold tkOwn;rw[hf]
 rw[tkPart_put o _ (by omega)]
theorem mPut_len {d o l:List UInt8}(h:mPut d o=(l,0)):l.length=48:=by
 obtain⟨_,_,_,hle,rfl⟩:=mPut_ok h
 have:=mBody_len d o
 unfold padT
 rw[List.length_append,List.length_replicate]
 split at this <;> omega
theorem takeR_of {d o l:List UInt8}(h:mPut d o=(l,0)):takeR l=(d,o,0):=by
 obtain⟨a,f,b⟩:=tk_put h
 unfold takeR;rw[a,f,b,if_pos ⟨h,rfl⟩]
theorem takeR_none {l:List UInt8}(h:∀ d o,mPut d o≠(l,0)):takeR l=([],[],4):=by
 unfold takeR;rw[if_neg (fun hh=>h _ _ hh.1)]
theorem tpart_any (q p:Nat)(l:List UInt8)(e:Int)(w:World)(hr:Rd w p l e)(hc:w.cell? ⟨q,0,none⟩=some (.pointer (some ⟨p,0,none⟩)))(hq:q<w.heap.size)(hne:q≠p)(hl:l.length≤9223372036854775807) :
  Calls Tryz.prog 134 #[.pointer (some ⟨q,0,none⟩)] w fun en w'=>en=.returned (.string (bs (tkPart l e).1))∧Rd w' p (tkPart l e).2.1 (tkPart l e).2.2∧Only p w w':=by
 have HR:=hd0 hr;clear hr
 have h1:=numOf_lt (rdText l e 1).1 1 256 (rdText_len l e 1) (by decide)
 have h0:=(numOf_bd (rdText l e 1).1).1
 have hle:=rd_le l e 1
 obtain⟨x,hx⟩:∃ x,numOf (rdText l e 1).1=x:=⟨_,rfl⟩
 have hT:tkPart l e=rdText (rdText l e 1).2.1 (rdText l e 1).2.2 x:=by unfold tkPart;rw[hx]
 have HU:Hid (∀ w,Rd w p l e→Calls Tryz.prog 90 #[.pointer (some ⟨p,0,none⟩)] w fun en w'=>en=.returned (.int .u8 x)∧Rd w' p (rdText l e 1).2.1 (rdText l e 1).2.2∧Only p w w'):=by
  rw[←hx];exact fun w hr=>U8_any p l e w hr hl
 rw[hx] at h1 h0
 have HX:Hid (∀ w,Rd w p (rdText l e 1).2.1 (rdText l e 1).2.2→Calls Tryz.prog 91 #[.pointer (some ⟨p,0,none⟩),.int .i64 x] w fun en w'=>en=.returned (.string (bs (tkPart l e).1))∧Rd w' p (tkPart l e).2.1 (tkPart l e).2.2∧Only p w w'):=by
  rw[hT];exact fun w hr=>text_any p _ _ x w hr (by omega)
 have hwx:IntKind.i64.wrap x=x:=IntWalk.i64_in _ (by omega)
 clear hx hT hle
 go_enter Tryz.func134,Tryz.ntmps134
 go_wp2_with fail
 go_region_law (first
  |(go_simp;go_at_call 90;(with_reducible refine(HU.out _ ?_).mono ?_);exact HR.out;rintro en w1 ⟨rfl,hr1,ho1⟩;have hc1:=(ho1.cell hq hne).trans hc)
  |(go_simp;go_at_call 91;(with_reducible refine(HX.out _ ?_).mono ?_);exact hr1;rintro en w2 ⟨rfl,hr2,ho2⟩))
 all_goals go_wp2_with fail
 all_goals go_ret
 all_goals exact⟨rfl,hr2,Only.undrew (ho1.trans ho2)⟩
theorem put10_any (d o:List UInt8)(w:World)(hd:d.length≤1000)(ho:o.length≤1000) :
  Calls Tryz.prog 135 #[.string (bs d),.string (bs o)] w fun en w'=>en=.returned (.tuple #[.string (bs (mPut d o).1),.int .i64 (mPut d o).2])∧Below w.heap.size w w':=by
 have hsd:=bs_size d
 have hso:=bs_size o
 by_cases h0:o=[]
 ·have hP:mPut d o=([],2):=by unfold mPut;rw[if_neg (fun h=>h.1 h0)]
  rw[hP]
  have e0:(bs o).toList.isEmpty=true:=by rw[empty_eq];exact decide_eq_true h0
  clear hP h0
  go_enter Tryz.func135,Tryz.ntmps135
  go_wp2
  refine bodyPost_ret (v:=.tuple #[.string (bs []),.int .i64 2]) (by simp[results,Tryz.results135,go_sem];rfl) rfl ⟨rfl,Below.refl _ _⟩
 have e0:(bs o).toList.isEmpty=false:=by rw[empty_eq];exact decide_eq_false h0
 by_cases h1:plB o=true
 rotate_left
 ·have hP:mPut d o=([],2):=by unfold mPut;rw[if_neg (fun h=>h1 h.2.1)]
  rw[hP]
  have HC:Hid (∀ w,Calls Tryz.prog 150 #[.string (bs o)] w fun en w'=>en=.returned (.bool false)∧Below w.heap.size w w'):=by
   have:plB o=false:=by simpa using h1
   rw[←this];exact fun w=>plain_any o w (by omega)
  clear hP h0 h1
  go_enter Tryz.func135,Tryz.ntmps135
  go_wp2_with fail
  refine(HC.out _).mono ?_
  rintro en w1 ⟨rfl,hb⟩
  go_wp2
  refine bodyPost_ret (v:=.tuple #[.string (bs []),.int .i64 2]) (by simp[results,Tryz.results135,go_sem];rfl) rfl ⟨rfl,hb⟩
 have HC:Hid (∀ w,Calls Tryz.prog 150 #[.string (bs o)] w fun en w'=>en=.returned (.bool true)∧Below w.heap.size w w'):=by
  rw[←h1];exact fun w=>plain_any o w (by omega)
 by_cases h2:plB d=true
 rotate_left
 ·have hP:mPut d o=([],2):=by unfold mPut;rw[if_neg (fun h=>h2 h.2.2)]
  rw[hP]
  have HC2:Hid (∀ w,Calls Tryz.prog 150 #[.string (bs d)] w fun en w'=>en=.returned (.bool false)∧Below w.heap.size w w'):=by
   have:plB d=false:=by simpa using h2
   rw[←this];exact fun w=>plain_any d w (by omega)
  clear hP h0 h1 h2
  go_enter Tryz.func135,Tryz.ntmps135
  go_wp2_with fail
  refine(HC.out _).mono ?_
  rintro en w1 ⟨rfl,hb1⟩
  go_wp2_with fail
  refine(HC2.out _).mono ?_
  rintro en w2 ⟨rfl,hb2⟩
  go_wp2
  refine bodyPost_ret (v:=.tuple #[.string (bs []),.int .i64 2]) (by simp[results,Tryz.results135,go_sem];rfl) rfl ⟨rfl,hb1.trans (hb2.mono hb1.size)⟩
 have HC2:Hid (∀ w,Calls Tryz.prog 150 #[.string (bs d)] w fun en w'=>en=.returned (.bool true)∧Below w.heap.size w w'):=by
  rw[←h2];exact fun w=>plain_any d w (by omega)
 by_cases h3:d.length+o.length≤44
 rotate_left
 ·have hP:mPut d o=([],5):=by unfold mPut;rw[if_pos ⟨h0,h1,h2⟩,if_neg h3]
  rw[hP]
  clear hP h0 h1 h2
  go_enter Tryz.func135,Tryz.ntmps135
  go_wp2_with fail
  refine(HC.out _).mono ?_
  rintro en w1 ⟨rfl,hb1⟩
  go_wp2_with fail
  refine(HC2.out _).mono ?_
  rintro en w2 ⟨rfl,hb2⟩
  have HB:=hd0 (hb1.trans (hb2.mono hb1.size))
  clear hb1 hb2
  by_cases h4:44<d.length
  ·have d4:decide (44<(d.length:Int))=true:=decide_eq_true (by omega)
   go_wp2
   refine bodyPost_ret (v:=.tuple #[.string (bs []),.int .i64 5]) (by simp[results,Tryz.results135,go_sem];rfl) rfl ⟨rfl,HB.out⟩
  ·have d4:decide (44<(d.length:Int))=false:=decide_eq_false (by omega)
   have d5:decide ((44:Int)-(d.length:Int)<(o.length:Int))=true:=decide_eq_true (by omega)
   go_wp2
   refine bodyPost_ret (v:=.tuple #[.string (bs []),.int .i64 5]) (by simp[results,Tryz.results135,go_sem];rfl) rfl ⟨rfl,HB.out⟩
 have hP:mPut d o=(padT (mBody d o),0):=by unfold mPut;rw[if_pos ⟨h0,h1,h2⟩,if_pos h3]
 rw[hP]
 obtain⟨R,hR⟩:∃ R,padT (mBody d o)=R:=⟨_,rfl⟩
 have HR:=hd0 hR
 rw[hR]
 have hbl:=mBody_len d o
 have d4:decide (44<(d.length:Int))=false:=decide_eq_false (by omega)
 have d5:decide ((44:Int)-(d.length:Int)<(o.length:Int))=false:=decide_eq_false (by omega)
 have HBL:=hd0 hbl
 clear hP h0 h1 h2 hR hbl
 go_enter Tryz.func135,Tryz.ntmps135
 go_wp2_with fail
 refine(HC.out _).mono ?_
 rintro en w1 ⟨rfl,hb1⟩
 go_wp2_with fail
 refine(HC2.out _).mono ?_
 rintro en w2 ⟨rfl,hb2⟩
 have hB2:=hb1.trans (hb2.mono hb1.size)
 clear hb1 hb2
 by_cases h5:d=[]
 ·have e5:(bs d).toList.isEmpty=true:=by rw[empty_eq];exact decide_eq_true h5
  have hbody:mBody d o=[1]++2::lenB o::o:=by unfold mBody;rw[if_pos h5]
  have hl1:=Bys.lit w2 w.heap.size #[.int .u8 1] [1] hB2.size rfl (by simp)
  have HL1:=hd0 hl1
  have HB2:=hd0 (hB2.alloc hB2.size (.cells #[.int .u8 1] 5))
  have HBD:=hd0 hbody
  have hlen3:(mBody d o).length≤48:=by rw[HBL.out,if_pos h5];omega
  clear hB2 hl1 hbody h5
  go_wp2_with fail
  refine(mput_any w.heap.size _ [1] o 2 _ HB2.out.size HL1.out (by simp) (by omega)).mono ?_
  rintro en w3 ⟨v3,rfl,hown3,hb3⟩
  rw[←HBD.out] at hown3
  have hk3:((48:Int)-((mBody d o).length:Int))=((48-(mBody d o).length:Nat):Int):=by omega
  have HB3:=hd0 (HB2.out.trans hb3)
  have hz3:=HB3.out.size
  have hne:(mBody d o)≠[]:=by unfold mBody;simp
  obtain⟨g,cap,rfl,_,_,hcp,hcm⟩:=hown3.shape.resolve_left (fun h=>hne h.2)
  have HO3:=hd0 hown3
  clear hown3 hb3 hne
  obtain⟨n,hn⟩:∃ n,(mBody d o).length=n:=⟨_,rfl⟩
  have hR2:padT (mBody d o)=mBody d o++List.replicate (48-n) 0:=by unfold padT;rw[hn]
  rw[HR.out] at hR2
  rw[hn] at hlen3 hk3 HO3 ⊢
  have HN:=hd0 hn
  have HR2:=hd0 hR2
  clear hn hR2
  go_wp2_with (at_builtin;refine wpList_append_zeros rfl (.tmp 40) (.tmp 43) rfl w.heap.size _ (mBody d o) rfl HO3.out (48-n) rfl ?_ ?_ ?_)
  ·have:=HN.out;omega
  ·exact hz3
  ·intro v4 w4 hown4 hb4
   rw[←HR2.out] at hown4
   have hstr:=run_string_bys hown4
   have HB4:=hd0 (HB3.out.trans hb4)
   clear hown4 hb4 HO3
   go_wp2
   refine bodyPost_ret (v:=.tuple #[.string (bs R),.int .i64 0]) (by simp[results,Tryz.results135,go_sem]) rfl ⟨rfl,HB4.out⟩
 ·have e5:(bs d).toList.isEmpty=false:=by rw[empty_eq];exact decide_eq_false h5
  have hbody:mBody d o=([]++4::lenB d::d)++2::lenB o::o:=by unfold mBody;rw[if_neg h5];rfl
  have HBD:=hd0 hbody
  have hlen3:(mBody d o).length≤48:=by rw[HBL.out,if_neg h5];omega
  have HB2:=hd0 (hB2.alloc hB2.size (.cells #[.int .u8 1] 5))
  clear hB2 hbody h5
  go_wp2_with fail
  refine(mput_any w.heap.size _ [] d 4 _ HB2.out.size (Bys.none _ _) (by simp) (by omega)).mono ?_
  rintro en w2' ⟨v2,rfl,hown2,hb2⟩
  have HBx:=hd0 (HB2.out.trans hb2)
  have HO2:=hd0 hown2
  clear hb2 hown2 HB2
  go_wp2_with fail
  refine(mput_any w.heap.size _ _ o 2 _ HBx.out.size HO2.out (by simp;omega) (by omega)).mono ?_
  rintro en w3 ⟨v3,rfl,hown3,hb3⟩
  rw[←HBD.out] at hown3
  have hk3:((48:Int)-((mBody d o).length:Int))=((48-(mBody d o).length:Nat):Int):=by omega
  have HB3:=hd0 (HBx.out.trans hb3)
  have hz3:=HB3.out.size
  have hne:(mBody d o)≠[]:=by unfold mBody;simp
  obtain⟨g,cap,rfl,_,_,hcp,hcm⟩:=hown3.shape.resolve_left (fun h=>hne h.2)
  have HO3:=hd0 hown3
  clear hown3 hb3 hne
  obtain⟨n,hn⟩:∃ n,(mBody d o).length=n:=⟨_,rfl⟩
  have hR2:padT (mBody d o)=mBody d o++List.replicate (48-n) 0:=by unfold padT;rw[hn]
  rw[HR.out] at hR2
  rw[hn] at hlen3 hk3 HO3 ⊢
  have HN:=hd0 hn
  have HR2:=hd0 hR2
  clear hn hR2
  go_wp2_with (at_builtin;refine wpList_append_zeros rfl (.tmp 40) (.tmp 43) rfl w.heap.size _ (mBody d o) rfl HO3.out (48-n) rfl ?_ ?_ ?_)
  ·have:=HN.out;omega
  ·exact hz3
  ·intro v4 w4 hown4 hb4
   rw[←HR2.out] at hown4
   have hstr:=run_string_bys hown4
   have HB4:=hd0 (HB3.out.trans hb4)
   clear hown4 hb4 HO3
   go_wp2
   refine bodyPost_ret (v:=.tuple #[.string (bs R),.int .i64 0]) (by simp[results,Tryz.results135,go_sem]) rfl ⟨rfl,HB4.out⟩
theorem tkPart_le (l:List UInt8)(e:Int):(tkPart l e).2.1.length≤l.length:=by
 unfold tkPart;exact Nat.le_trans (rd_le _ _ _) (rd_le _ _ _)
theorem tkPart_le1 (l:List UInt8)(e:Int):(tkPart l e).1.length≤l.length:=by
 unfold tkPart;exact Nat.le_trans (rd_le1 _ _ _) (rd_le _ _ _)
theorem takeR_of_test (l d o A:List UInt8)(e f:Int)(hd:(tkDom l).1=d)(hf:numOf (tkFmt l).1=f)(ho:(tkOwn l).1=o)(hP:mPut d o=(A,e)) :
  takeR l=if e=0∧A=l∧f=2 then(d,o,0) else([],[],4):=by
 unfold takeR
 rw[hd,hf,ho,hP]
 by_cases h:e=0∧A=l∧f=2
 ·rw[if_pos h,if_pos ⟨by rw[h.1,h.2.1],h.2.2⟩]
 ·rw[if_neg h,if_neg (fun hh=>h ⟨by simpa using congrArg Prod.snd hh.1,by simpa using congrArg Prod.fst hh.1,hh.2⟩)]
theorem take10_any (l:List UInt8)(w:World)(hl:l.length≤1000):Calls Tryz.prog 112 #[.string (bs l)] w fun en w' =>
  en=.returned (.tuple #[.string (bs (takeR l).1),.string (bs (takeR l).2.1),.int .i64 (takeR l).2.2])∧Below w.heap.size w w':=by
 obtain⟨V,hV⟩:∃ V,(Value.tuple #[.string (bs (takeR l).1),.string (bs (takeR l).2.1),.int .i64 (takeR l).2.2])=V:=⟨_,rfl⟩
 have HV:=hd0 hV
 rw[hV];clear hV
 obtain⟨x,hx⟩:∃ x,numOf (rdText l 0 1).1=x:=⟨_,rfl⟩
 obtain⟨l1,hl1⟩:∃ l1,(rdText l 0 1).2.1=l1:=⟨_,rfl⟩
 obtain⟨e1,he1⟩:∃ e1,(rdText l 0 1).2.2=e1:=⟨_,rfl⟩
 have n1:l1.length≤1000:=by rw[←hl1];exact Nat.le_trans (rd_le _ _ _) hl
 have C1:Hid (∀ w p,Rd w p l 0→Calls Tryz.prog 90 #[.pointer (some ⟨p,0,none⟩)] w fun en w'=>en=.returned (.int .u8 x)∧Rd w' p l1 e1∧Only p w w'):=by
  rw[←hx,← hl1,← he1];exact fun w p hr=>U8_any p l 0 w hr (by omega)
 have hD:tkDom l=if x=4 then tkPart l1 e1 else([],l1,e1):=by unfold tkDom;rw[hx,hl1,he1]
 obtain⟨d,hd⟩:∃ d,(tkDom l).1=d:=⟨_,rfl⟩
 obtain⟨l2,hl2⟩:∃ l2,(tkDom l).2.1=l2:=⟨_,rfl⟩
 obtain⟨e2,he2⟩:∃ e2,(tkDom l).2.2=e2:=⟨_,rfl⟩
 have n2:l2.length≤1000∧d.length≤1000:=by
  rw[←hl2,← hd,hD];split
  ·have:=tkPart_le l1 e1;have:=tkPart_le1 l1 e1;omega
  ·exact⟨n1,by simp⟩
 have C2:x=4→Hid (∀ w p q,Rd w p l1 e1→w.cell? ⟨q,0,none⟩=some (.pointer (some ⟨p,0,none⟩))→q<w.heap.size→q≠p→Calls Tryz.prog 134 #[.pointer (some ⟨q,0,none⟩)] w fun en w'=>en=.returned (.string (bs d))∧Rd w' p l2 e2∧Only p w w'):=fun h4=>by
  rw[←hd,← hl2,← he2,hD,if_pos h4];exact fun w p q hr hc hq hne=>tpart_any q p l1 e1 w hr hc hq hne (by omega)
 have N2:x≠4→d=[]∧l2=l1∧e2=e1:=fun h4=>by
  rw[←hd,← hl2,← he2,hD,if_neg h4];exact⟨rfl,rfl,rfl⟩
 obtain⟨f,hf⟩:∃ f,numOf (tkFmt l).1=f:=⟨_,rfl⟩
 obtain⟨l3,hl3⟩:∃ l3,(tkFmt l).2.1=l3:=⟨_,rfl⟩
 obtain⟨e3,he3⟩:∃ e3,(tkFmt l).2.2=e3:=⟨_,rfl⟩
 have hF:tkFmt l=rdText l2 e2 1:=by unfold tkFmt;rw[hl2,he2]
 have n3:l3.length≤1000:=by rw[←hl3,hF];exact Nat.le_trans (rd_le _ _ _) n2.1
 have C3:Hid (∀ w p,Rd w p l2 e2→Calls Tryz.prog 90 #[.pointer (some ⟨p,0,none⟩)] w fun en w'=>en=.returned (.int .u8 f)∧Rd w' p l3 e3∧Only p w w'):=by
  rw[←hf,← hl3,← he3,hF];exact fun w p hr=>U8_any p l2 e2 w hr (by omega)
 obtain⟨o,ho⟩:∃ o,(tkOwn l).1=o:=⟨_,rfl⟩
 have hO:tkOwn l=tkPart l3 e3:=by unfold tkOwn;rw[hl3,he3]
 have n4:o.length≤1000:=by rw[←ho,hO];exact Nat.le_trans (tkPart_le1 _ _) n3
 have C4:Hid (∀ w p q,Rd w p l3 e3→w.cell? ⟨q,0,none⟩=some (.pointer (some ⟨p,0,none⟩))→q<w.heap.size→q≠p→Calls Tryz.prog 134 #[.pointer (some ⟨q,0,none⟩)] w fun en w'=>en=.returned (.string (bs o))∧Only p w w'):=by
  rw[←ho,hO];exact fun w p q hr hc hq hne=>(tpart_any q p l3 e3 w hr hc hq hne (by omega)).mono fun _ _ h=>⟨h.1,h.2.2⟩
 obtain⟨A,e,hP⟩:∃ A e,mPut d o=(A,e):=⟨_,_,rfl⟩
 have C5:Hid (∀ w,Calls Tryz.prog 135 #[.string (bs d),.string (bs o)] w fun en w'=>en=.returned (.tuple #[.string (bs A),.int .i64 e])∧Below w.heap.size w w'):=fun w=>by
  have h:=put10_any d o w n2.2 n4
  rw[hP] at h;exact h
 have HR:=hd0 (takeR_of_test l d o A e f hd hf ho hP)
 have hlA:=bs_tl_eq A l
 clear hx hl1 he1 hD hd hl2 he2 hf hl3 he3 hF ho hO hP n1 n2 n3 n4
 go_enter Tryz.func112,Tryz.ntmps112
 go_wp2_with fail
 with_reducible refine(of_any l w).mono ?_
 rintro en w1 ⟨rfl,hr,hb,hlt⟩
 have tk0:TK w w1.heap.size (w1.alloc (.cells #[.pointer (some ⟨w.heap.size,0,none⟩)] 188)) l 0 :=
  ⟨hr.later (bA _),by simp[go_sem],hb.alloc hb.size _,by simp,hlt⟩
 have TK0:=hd0 tk0
 clear tk0 hr hb hlt
 go_wp2_with fail
 with_reducible refine(C1.out _ _ TK0.out.rd).mono ?_
 rintro en w2 ⟨rfl,hr2,ho2⟩
 have tk1:=TK0.out.next hr2 ho2
 have c1:=tk1.2.1
 have TK1:=hd0 tk1
 clear hr2 ho2 tk1 TK0
 by_cases h4:x=4
 ·have d4:(x==4)=true:=by simpa using h4
  have C2':=C2 h4
  clear h4 C2 N2
  go_wp2_with fail
  with_reducible refine(C2'.out _ _ _ TK1.out.rd c1 TK1.out.lt TK1.out.ne).mono ?_
  rintro en w3 ⟨rfl,hr3,ho3⟩
  have tk2:=TK1.out.next hr3 ho3
  have c2:=tk2.2.1
  have TK2:=hd0 tk2
  clear hr3 ho3 tk2 c1 TK1
  go_wp2_with fail
  with_reducible refine(C3.out _ _ TK2.out.rd).mono ?_
  rintro en w4 ⟨rfl,hr4,ho4⟩
  have tk4:=TK2.out.next hr4 ho4
  have c4:=tk4.2.1
  have TK4:=hd0 tk4
  clear hr4 ho4 tk4 c2 TK2
  go_wp2_with fail
  with_reducible refine(C4.out _ _ _ TK4.out.rd c4 TK4.out.lt TK4.out.ne).mono ?_
  rintro en w5 ⟨rfl,ho5⟩
  have HB5:=hd0 (TK4.out.bel.trans (ho5.below (Nat.le_refl _) TK4.out.bel.size))
  clear c4 TK4 ho5
  go_wp2_with fail
  with_reducible refine(C5.out _).mono ?_
  rintro en w6 ⟨rfl,hb6⟩
  have HB6:=hd0 (HB5.out.trans (hb6.mono HB5.out.size))
  clear hb6 HB5
  by_cases he:e=0
  ·have de:(e==0)=true:=by simpa using he
   have de':(e != 0)=false:=by unfold bne;rw[de];rfl
   by_cases hA:A=l
   ·have dA:((bs A).toList==(bs l).toList)=true:=by rw[hlA];exact decide_eq_true hA
    by_cases hf:f=2
    ·have df:(f==2)=true:=by simpa using hf
     have df':(f != 2)=false:=by unfold bne;rw[df];rfl
     have hVV:=HV.out
     rw[HR.out,if_pos ⟨he,hA,hf⟩] at hVV
     have HVV:=hd0 hVV
     clear he hA hf hVV hlA
     go_wp2
     refine bodyPost_ret (v:=.tuple #[.string (bs d),.string (bs o),.int .i64 0]) (by simp[results,Tryz.results112,go_sem]) rfl ⟨by rw[←HVV.out],HB6.out⟩
    ·have df:(f==2)=false:=by simpa using hf
     have df':(f != 2)=true:=by unfold bne;rw[df];rfl
     have hVV:=HV.out
     rw[HR.out,if_neg (fun h=>hf h.2.2)] at hVV
     have HVV:=hd0 hVV
     clear he hA hf hVV hlA
     go_wp2
     refine bodyPost_ret (v:=.tuple #[.string (bs []),.string (bs []),.int .i64 4]) (by simp[results,Tryz.results112,go_sem];rfl) rfl ⟨by rw[←HVV.out],HB6.out⟩
   ·have dA:((bs A).toList==(bs l).toList)=false:=by rw[hlA];exact decide_eq_false hA
    have hVV:=HV.out
    rw[HR.out,if_neg (fun h=>hA h.2.1)] at hVV
    have HVV:=hd0 hVV
    clear he hA hVV hlA
    go_wp2
    refine bodyPost_ret (v:=.tuple #[.string (bs []),.string (bs []),.int .i64 4]) (by simp[results,Tryz.results112,go_sem];rfl) rfl ⟨by rw[←HVV.out],HB6.out⟩
  ·have de:(e==0)=false:=by simpa using he
   have de':(e != 0)=true:=by unfold bne;rw[de];rfl
   have hVV:=HV.out
   rw[HR.out,if_neg (fun h=>he h.1)] at hVV
   have HVV:=hd0 hVV
   clear he hVV hlA
   go_wp2
   refine bodyPost_ret (v:=.tuple #[.string (bs []),.string (bs []),.int .i64 4]) (by simp[results,Tryz.results112,go_sem];rfl) rfl ⟨by rw[←HVV.out],HB6.out⟩
 ·have d4:(x==4)=false:=by simpa using h4
  obtain⟨rfl,rfl,rfl⟩:=N2 h4
  have TK2:=TK1
  have c2:=c1
  clear h4 C2 N2 c1 TK1
  go_wp2_with fail
  with_reducible refine(C3.out _ _ TK2.out.rd).mono ?_
  rintro en w4 ⟨rfl,hr4,ho4⟩
  have tk4:=TK2.out.next hr4 ho4
  have c4:=tk4.2.1
  have TK4:=hd0 tk4
  clear hr4 ho4 tk4 c2 TK2
  go_wp2_with fail
  with_reducible refine(C4.out _ _ _ TK4.out.rd c4 TK4.out.lt TK4.out.ne).mono ?_
  rintro en w5 ⟨rfl,ho5⟩
  have HB5:=hd0 (TK4.out.bel.trans (ho5.below (Nat.le_refl _) TK4.out.bel.size))
  clear c4 TK4 ho5
  go_wp2_with fail
  refine(C5.out _).mono ?_
  rintro en w6 ⟨rfl,hb6⟩
  have HB6:=hd0 (HB5.out.trans (hb6.mono HB5.out.size))
  clear hb6 HB5
  by_cases he:e=0
  ·have de:(e==0)=true:=by simpa using he
   have de':(e != 0)=false:=by unfold bne;rw[de];rfl
   by_cases hA:A=l
   ·have dA:((bs A).toList==(bs l).toList)=true:=by rw[hlA];exact decide_eq_true hA
    by_cases hf:f=2
    ·have df:(f==2)=true:=by simpa using hf
     have df':(f != 2)=false:=by unfold bne;rw[df];rfl
     have hVV:=HV.out
     rw[HR.out,if_pos ⟨he,hA,hf⟩] at hVV
     have HVV:=hd0 hVV
     clear he hA hf hVV hlA
     go_wp2
     refine bodyPost_ret (v:=.tuple #[.string (bs []),.string (bs o),.int .i64 0]) (by simp[results,Tryz.results112,go_sem];rfl) rfl ⟨by rw[←HVV.out],HB6.out⟩
    ·have df:(f==2)=false:=by simpa using hf
     have df':(f != 2)=true:=by unfold bne;rw[df];rfl
     have hVV:=HV.out
     rw[HR.out,if_neg (fun h=>hf h.2.2)] at hVV
     have HVV:=hd0 hVV
     clear he hA hf hVV hlA
     go_wp2
     refine bodyPost_ret (v:=.tuple #[.string (bs []),.string (bs []),.int .i64 4]) (by simp[results,Tryz.results112,go_sem];rfl) rfl ⟨by rw[←HVV.out],HB6.out⟩
   ·have dA:((bs A).toList==(bs l).toList)=false:=by rw[hlA];exact decide_eq_false hA
    have hVV:=HV.out
    rw[HR.out,if_neg (fun h=>hA h.2.1)] at hVV
    have HVV:=hd0 hVV
    clear he hA hVV hlA
    go_wp2
    refine bodyPost_ret (v:=.tuple #[.string (bs []),.string (bs []),.int .i64 4]) (by simp[results,Tryz.results112,go_sem];rfl) rfl ⟨by rw[←HVV.out],HB6.out⟩
  ·have de:(e==0)=false:=by simpa using he
   have de':(e != 0)=true:=by unfold bne;rw[de];rfl
   have hVV:=HV.out
   rw[HR.out,if_neg (fun h=>he h.1)] at hVV
   have HVV:=hd0 hVV
   clear he hVV hlA
   go_wp2
   refine bodyPost_ret (v:=.tuple #[.string (bs []),.string (bs []),.int .i64 4]) (by simp[results,Tryz.results112,go_sem];rfl) rfl ⟨by rw[←HVV.out],HB6.out⟩
end Go.Proofs.YtlkdfofpnmpidaaGreat
