/- ZQ02 -/
import Derived.Test.YtlkdfofpnmpidaaGreatZQ01
import Derived.Maps.OwnSet
import Derived.RegionIn
import Derived.Deep.DeepCutAuto
import Derived.RangeFuncBox
import Derived.RangeFuncLeaves
import Derived.RangeFuncBound
import Derived.RangeFuncCalls
import Derived.Shelf.Abstract
import Derived.Sort.MapsRangeIn
import Derived.OwnWalkIn
import Derived.TacticsInMore
import Derived.LoopNIn
import Derived.LoopIn
import Derived.Maps.AppendAt
import Derived.Lib.AppendZeros
set_option linter.unusedVariables false
set_option linter.unusedSimpArgs false
set_option maxRecDepth 100000
set_option maxHeartbeats 16000000
namespace Go.Proofs.YtlkdfofpnmpidaaGreat
open Go.RowKit
open Go.Maps (Keyed int_keyed keyOf_int_mk)
abbrev Vn:=Int × Int × Int
def vElD (a b:Int):DataW Unit:=.lit (.int .i64 (a*256+b))
def vD (V:List Vn):DataW Unit:=.map (V.map fun x=>(.int .u16 x.1,vElD x.2.1 x.2.2))
def vFind:List Vn→Int→Option (Int × Int)
 |[],_=>none
 | x::r,k=>if x.1=k then some x.2 else vFind r k
def vGet (V:List Vn)(k:Int):Int × Int:=(vFind V k).getD (0,0)
def vIns (x:Vn):List Vn→List Vn
 |[]=>[x]
 | y::r=>if x.1<y.1 then x::y::r else y::vIns x r
def vDel (V:List Vn)(k:Int):List Vn:=V.filter fun y=>!decide (y.1=k)
def vPut (V:List Vn)(x:Vn):List Vn:=vIns x (vDel V x.1)
theorem same_u16 (a b:Int):(Lit.int .u16 a).sameKey (.int .u16 b)=decide (a=b):=by simp[Lit.sameKey]
theorem vD_at (V:List Vn)(k:Int)(z:DataW Unit):(vD V).atKey (.int .u16 k) z=match vFind V k with|some x=>vElD x.1 x.2|none=>z:=by
 induction V with
 | nil=>rfl
 | cons x r ih =>
  unfold vD DataW.atKey at ih ⊢
  simp only[List.map_cons,List.find?_cons,vFind,same_u16]
  by_cases h:x.1=k
  ·rw[decide_eq_true h,if_pos h]
  ·rw[decide_eq_false h,if_neg h];exact ih
theorem vD_has (V:List Vn)(k:Int):Maps.has (vD V) (.int .u16 k)=(vFind V k).isSome:=by
 induction V with
 | nil=>rfl
 | cons x r ih =>
  unfold vD Maps.has at ih ⊢
  simp only[List.map_cons,List.any_cons,vFind,same_u16]
  by_cases h:x.1=k
  ·rw[decide_eq_true h,if_pos h];rfl
  ·rw[decide_eq_false h,if_neg h,Bool.false_or];exact ih
theorem vD_size (V:List Vn):Maps.size (vD V)=V.length:=by simp[vD,Maps.size]
theorem vIns_map (x:Vn):∀ V:List Vn,DataW.insert (Lit.int .u16 x.1,vElD x.2.1 x.2.2) (V.map fun x=>(Lit.int .u16 x.1,vElD x.2.1 x.2.2))=(vIns x V).map fun x=>(Lit.int .u16 x.1,vElD x.2.1 x.2.2)
 |[]=>rfl
 | y::r=>by
  simp only[List.map_cons,DataW.insert,vIns]
  by_cases h:x.1<y.1
  ·have h2:(Lit.int .u16 x.1).before (Lit.int .u16 y.1)=true:=decide_eq_true h
   rw[if_pos h2,if_pos h];rfl
  ·have h2:¬(Lit.int .u16 x.1).before (Lit.int .u16 y.1)=true:=by rw[show(Lit.int .u16 x.1).before (Lit.int .u16 y.1)=decide (x.1<y.1) from rfl,decide_eq_false h];decide
   rw[if_neg h2,if_neg h,List.map_cons,vIns_map x r]
theorem vDel_map (V:List Vn)(k:Int):(V.map fun x=>(Lit.int .u16 x.1,vElD x.2.1 x.2.2)).filter (fun p=>!p.1.sameKey (.int .u16 k))=(vDel V k).map fun x=>(Lit.int .u16 x.1,vElD x.2.1 x.2.2):=by
 unfold vDel
 rw[List.filter_map]
 congr 1
 apply List.filter_congr
 intro x _
 simp only[Function.comp,same_u16]
theorem vD_put (V:List Vn)(x:Vn):(vD V).put (.int .u16 x.1) (vElD x.2.1 x.2.2)=vD (vPut V x):=by
 unfold vD vPut
 simp only[DataW.put]
 rw[vDel_map,vIns_map]
theorem vIns_mem {x z:Vn} : ∀ {V:List Vn},z∈vIns x V→z=x∨z∈V
 |[],h=>Or.inl (by simpa [vIns] using h)
 | y::r,h=>by
  unfold vIns at h
  split at h
  ·rcases List.mem_cons.1 h with h|h
   ·exact Or.inl h
   ·exact Or.inr h
  ·rcases List.mem_cons.1 h with h|h
   ·exact Or.inr (h ▸ List.mem_cons_self ..)
   ·rcases vIns_mem h with h|h
    ·exact Or.inl h
    ·exact Or.inr (List.mem_cons_of_mem _ h)
theorem vDel_mem {V:List Vn}{k:Int}{z:Vn}(h:z∈vDel V k):z∈V:=(List.mem_filter.1 h).1
theorem vPut_mem {V:List Vn}{x z:Vn}(h:z∈vPut V x):z=x∨z∈V:=(vIns_mem h).imp id vDel_mem
theorem vIns_len (x:Vn):∀ V:List Vn,(vIns x V).length=V.length+1
 |[]=>rfl
 | y::r=>by unfold vIns;split <;> simp[vIns_len x r]
theorem vPut_len (V:List Vn)(x:Vn):(vPut V x).length≤V.length+1:=by
 unfold vPut vDel;rw[vIns_len];exact Nat.succ_le_succ (List.length_filter_le _ _)
theorem u16_keyed:Keyed Tryz.prog 22:=int_keyed Tryz.underlying22
section
variable {W W':World} {m:Nat} {V:List Vn}
theorem u16_wf {k:Int}(h:0≤k∧k<65536):(Lit.int .u16 k).wf=true:=by simp[Lit.wf,IntKind.min,IntKind.max,IntKind.bits,IntKind.signed];omega
theorem atGet (V:List Vn)(k:Int):(vD V).atKey (.int .u16 k) (vElD 0 0)=vElD (vGet V k).1 (vGet V k).2:=by
 rw[vD_at];unfold vGet;cases vFind V k <;> rfl
end
def Rising (V:List Vn):Prop:=(V.map (·.1)).Pairwise (·<·)
theorem vFind_mem:∀ (V:List Vn)(x:Int),(vFind V x).isSome=true↔x∈V.map (·.1)
 |[],_=>by simp[vFind]
 | y::r,x=>by
  unfold vFind
  by_cases h:y.1=x
  ·rw[if_pos h];simp[h]
  ·rw[if_neg h,vFind_mem r x,List.map_cons,List.mem_cons]
   exact⟨Or.inr,fun h2=>h2.elim (fun e=>absurd e.symm h) id⟩
theorem Rising.nodup {V:List Vn}(h:Rising V):(V.map (·.1)).Nodup:=h.imp (fun {a b} hab=>by omega)
theorem keys_perm {V:List Vn}(h:Rising V){ss:List Int}(h1:ss.Nodup)(h2:∀ x,x∈ss↔Maps.has (vD V) (.int .u16 x)=true):ss.Perm (V.map (·.1)) :=
 (List.perm_ext_iff_of_nodup h1 h.nodup).2 fun x=>by rw[h2 x,vD_has,vFind_mem]
theorem keys_eq {V:List Vn}(h:Rising V){ss s:List Int}(h1:ss.Nodup)(h2:∀ x,x∈ss↔Maps.has (vD V) (.int .u16 x)=true)(h3:s.Perm ss)(h4:s.Pairwise (·≤·)):s=V.map (·.1):=by
 refine List.Perm.eq_of_pairwise (le:=(·≤·)) (fun a b _ _ h1 h2=>Int.le_antisymm h1 h2) h4 (h.imp (fun {a b} hab=>by omega)) (h3.trans (keys_perm h h1 h2))
theorem Rising.del {V:List Vn}(h:Rising V)(k:Int):Rising (vDel V k):=by
 unfold Rising vDel
 exact List.Pairwise.sublist (List.Sublist.map _ List.filter_sublist) h
theorem vIns_fst {x:Vn} : ∀ {L:List Vn} {y:Int},y∈(vIns x L).map (·.1)→y=x.1∨y∈L.map (·.1)
 | L,y,h=>by
  obtain⟨z,hz,rfl⟩:=List.mem_map.1 h
  rcases vIns_mem hz with rfl|hz
  ·exact .inl rfl
  ·exact .inr (List.mem_map_of_mem hz)
theorem Rising.ins {x:Vn} : ∀ {V:List Vn},Rising V→x.1 ∉ V.map (·.1)→Rising (vIns x V)
 |[],_,_=>by simp[Rising,vIns]
 | y::r,h,hn=>by
  unfold Rising at h ⊢
  rw[List.map_cons,List.pairwise_cons] at h
  unfold vIns
  by_cases hc:x.1<y.1
  ·rw[if_pos hc,List.map_cons,List.map_cons,List.pairwise_cons,List.pairwise_cons]
   refine⟨fun z hz=>?_,h.1,h.2⟩
   rcases List.mem_cons.1 hz with rfl|hz
   ·exact hc
   ·have:=h.1 z hz;omega
  ·rw[if_neg hc,List.map_cons,List.pairwise_cons]
   have hxy:x.1≠y.1:=fun e=>hn (by rw[e];simp)
   refine⟨fun z hz=>?_,Rising.ins (V:=r) h.2 (fun hm=>hn (by rw[List.map_cons];exact List.mem_cons_of_mem _ hm))⟩
   rcases vIns_fst hz with rfl|hz
   ·omega
   ·exact h.1 z hz
theorem Rising.put {V:List Vn}(h:Rising V)(x:Vn):Rising (vPut V x):=by
 unfold vPut
 refine(h.del x.1).ins fun hm=>?_
 obtain⟨y,hy,e⟩:=List.mem_map.1 hm
 have:=(List.mem_filter.1 hy).2
 simp at this
 exact this e
theorem vFind_at:∀ {V:List Vn}{j:Nat}(hj:j<V.length),Rising V→vFind V V[j].1=some V[j].2
 | x::r,0,_,_=>by unfold vFind;simp
 | x::r,j+1,hj,h=>by
  unfold Rising at h
  rw[List.map_cons,List.pairwise_cons] at h
  have hj':j<r.length:=by simpa using hj
  have h2:=h.1 r[j].1 (List.mem_map_of_mem (List.getElem_mem hj'))
  unfold vFind
  have e:(x::r)[j+1]=r[j]:=rfl
  rw[e,if_neg (by omega)]
  exact vFind_at hj' h.2
open Go.Maps (Keyed int_keyed keyOf_int_mk)
def rEl (v:Value):Option (DataW Unit × List MemPlace) :=
 match v with
 | .agg cs=>match cs.toList with
  |[.int .i64 a,.bool b]=>some (vElD a (if b=true then 1 else 0),[])
  | _=>none
 | _=>none
theorem rEl_mk (a:Int)(b:Bool):rEl (.agg #[.int .i64 a,.bool b])=some (vElD a (if b=true then 1 else 0),[]):=rfl
theorem rEl_inv {v:Value}{a b:Int}{ps:List MemPlace}(hb:b=0∨b=1)(h:rEl v=some (vElD a b,ps)):v=.agg #[.int .i64 a,.bool (decide (b=1))]:=by
 unfold rEl at h
 split at h
 ·rename_i cs
  split at h
  ·rename_i a' b' hcs
   injection h with h;injection h with h _;unfold vElD at h;injection h with h;injection h with _ h
   rw[show cs=cs.toList.toArray from rfl,hcs]
   cases b'
   ·rw[if_neg (by decide)] at h
    have e1:a'=a:=by omega
    have e2:b=0:=by omega
    subst e1 e2;rfl
   ·rw[if_pos rfl] at h
    have e1:a'=a:=by omega
    have e2:b=1:=by omega
    subst e1 e2;rfl
  ·cases h
 ·cases h
structure OM (W:World)(m:Nat)(V:List Vn):Prop where
 own:W.ownsMap Tryz.prog 22 rEl m V.length (vD V)
 wf:∀ x∈V,x.2.2=0∨x.2.2=1
theorem own_tightR {W:World}{m n:Nat}{V:List Vn}(h:W.ownsMap Tryz.prog 22 rEl m n (vD V)):W.ownsMap Tryz.prog 22 rEl m V.length (vD V):=by
 obtain⟨es,clock,hb,F,hs,hD⟩:=h
 refine⟨es,clock,hb,F,?_,hD⟩
 have:=congrArg Maps.size hD
 rw[vD_size] at this
 simp only[Maps.size,length_sorted,List.length_map,Array.length_toList] at this
 omega
theorem vGet_wfR {V:List Vn}(h:∀ x∈V,x.2.2=0∨x.2.2=1)(k:Int):(vGet V k).2=0∨(vGet V k).2=1:=by
 unfold vGet
 induction V with
 | nil=>exact .inl rfl
 | cons x r ih =>
  unfold vFind
  split
  ·exact h x (List.mem_cons_self ..)
  ·exact ih fun y hy=>h y (List.mem_cons_of_mem _ hy)
theorem zeroOther (W:World):(zeroValue 166).run Tryz.prog W=.ok (.agg #[.int .i64 0,.bool false]) W:=by kernel_rfl
section
variable {W W':World} {m:Nat} {V:List Vn}
theorem OM.lt (h:OM W m V):m<W.heap.size:=h.own.lt
theorem OM.later (h:OM W m V)(hb:Below W.heap.size W W'):OM W' m V:=by
 obtain⟨es,clock,hb1,r⟩:=h.own
 exact⟨⟨es,clock,(hb.block m h.lt).trans hb1,r⟩,h.wf⟩
theorem OM.blk (h:OM W m V)(e:W'.heap[m]?=W.heap[m]?):OM W' m V:=by
 obtain⟨es,clock,hb1,r⟩:=h.own
 exact⟨⟨es,clock,e.trans hb1,r⟩,h.wf⟩
theorem OM.made (W:World):OM (W.alloc (.map #[] 0)) W.heap.size []:=⟨World.ownsMap_made W Tryz.prog 22 rEl,by simp⟩
theorem OM.look (h:OM W m V)(k:Int)(hk:0≤k∧k<65536) :
  (Instr.lookup 162 (.map (some m)) (.int .u16 k) true).run Tryz.prog W=.ok (.tuple #[.agg #[.int .i64 (vGet V k).1,.bool (decide ((vGet V k).2=1))],.bool (vFind V k).isSome]) W:=by
 obtain⟨v,ps,hrun,hv⟩:=h.own.look_ok u16_keyed Tryz.underlying162 (zeroOther W) (rEl_mk 0 false) (keyOf_int_mk Tryz.underlying22 (u16_wf hk))
 rw[show vElD 0 (if (false:Bool)=true then 1 else 0)=vElD 0 0 from rfl,atGet] at hv
 rw[hrun,rEl_inv (vGet_wfR h.wf k) hv,vD_has]
theorem OM.look1 (h:OM W m V)(k:Int)(hk:0≤k∧k<65536) :
  (Instr.lookup 162 (.map (some m)) (.int .u16 k) false).run Tryz.prog W=.ok (.agg #[.int .i64 (vGet V k).1,.bool (decide ((vGet V k).2=1))]) W:=by
 obtain⟨v,ps,hrun,hv⟩:=h.own.lookup u16_keyed Tryz.underlying162 (zeroOther W) (rEl_mk 0 false) (keyOf_int_mk Tryz.underlying22 (u16_wf hk))
 rw[show vElD 0 (if (false:Bool)=true then 1 else 0)=vElD 0 0 from rfl,atGet] at hv
 rw[hrun,rEl_inv (vGet_wfR h.wf k) hv]
theorem OM.update (h:OM W m V)(hl:V.length≤1000)(k a:Int)(b:Bool)(hk:0≤k∧k<65536) :
  ∃ W',(Instr.mapUpdate 162 (.map (some m)) (.int .u16 k) (.agg #[.int .i64 a,.bool b])).run Tryz.prog W=.ok () W'∧OM W' m (vPut V (k,a,if b=true then 1 else 0))∧W.grownBy W' (some m):=by
 obtain⟨w',h1,h2,h3⟩:=h.own.update u16_keyed Tryz.underlying162 (Nat.lt_of_le_of_lt hl (by decide)) (key:=.int .u16 k) (val:=.agg #[.int .i64 a,.bool b]) (keyOf_int_mk Tryz.underlying22 (u16_wf hk)) (rEl_mk a b)
 have e:=vD_put V (k,a,if b=true then 1 else 0)
 simp only at e
 rw[e] at h2
 refine⟨w',h1,⟨own_tightR h2,fun x hx=>?_⟩,h3⟩
 rcases vPut_mem hx with rfl|hx
 ·cases b
  ·exact .inl rfl
  ·exact .inr rfl
 ·exact h.wf x hx
end
structure Ow8 where
 lv:Int
 mp:Int
 iv:Int
 md:List UInt8
structure Ow8.Ok (a:Ow8):Prop where
 lv:0≤a.lv∧a.lv<256
 mp:0≤a.mp∧a.mp<65536
 iv:0≤a.iv∧a.iv<256
 md:a.md.length≤1000
def mcA (a:Ow8)(m:Nat)(bd cr:Int):Array Value:=#[.int .u8 a.lv,.int .u16 a.mp,.int .u8 a.iv,.string (bs a.md),.map (some m),.int .i64 bd,.int .i64 cr]
structure MC (W:World)(q:Nat)(a:Ow8)(m:Nat)(V:List Vn)(bd cr:Int):Prop where
 b:W.heap[q]?=some (.cells (mcA a m bd cr) 164 (0,0))
 om:OM W m V
 ne:q≠m
 vl:V.length≤8
 ri:Rising V
section
variable {W W':World} {q m:Nat} {a:Ow8} {V:List Vn} {bd cr:Int}
theorem MC.lt (h:MC W q a m V bd cr):q<W.heap.size:=(Array.getElem?_eq_some_iff.1 h.b).1
theorem MC.later (h:MC W q a m V bd cr)(hb:Below W.heap.size W W'):MC W' q a m V bd cr:=⟨(hb.block q h.lt).trans h.b,h.om.later hb,h.ne,h.vl,h.ri⟩
theorem MC.blk (h:MC W q a m V bd cr)(e:W'.heap[q]?=W.heap[q]?)(e2:W'.heap[m]?=W.heap[m]?):MC W' q a m V bd cr:=⟨e.trans h.b,h.om.blk e2,h.ne,h.vl,h.ri⟩
theorem MC.c0 (h:MC W q a m V bd cr):W.cell? ⟨q,0,none⟩=some (.int .u8 a.lv):=by simp[World.cell?,h.b,mcA]
theorem MC.c2 (h:MC W q a m V bd cr):W.cell? ⟨q,2,none⟩=some (.int .u8 a.iv):=by simp[World.cell?,h.b,mcA]
theorem MC.c3 (h:MC W q a m V bd cr):W.cell? ⟨q,3,none⟩=some (.string (bs a.md)):=by simp[World.cell?,h.b,mcA]
theorem MC.c4 (h:MC W q a m V bd cr):W.cell? ⟨q,4,none⟩=some (.map (some m)):=by simp[World.cell?,h.b,mcA]
theorem MC.c5 (h:MC W q a m V bd cr):W.cell? ⟨q,5,none⟩=some (.int .i64 bd):=by simp[World.cell?,h.b,mcA]
theorem MC.c6 (h:MC W q a m V bd cr):W.cell? ⟨q,6,none⟩=some (.int .i64 cr):=by simp[World.cell?,h.b,mcA]
theorem MC.fr (h:MC W q a m V bd cr)(j:Nat):W.frozen? ⟨q,j,none⟩=false:=by simp[World.frozen?,h.b]
theorem MC.s5 (h:MC W q a m V bd cr)(x:Int):MC (W.setCell ⟨q,5,none⟩ (.int .i64 x)) q a m V x cr:=by
 refine⟨?_,h.om.blk (Below.heap_setCell _ _ _ _ (by intro e;exact h.ne e.symm)),h.ne,h.vl,h.ri⟩
 simp[World.setCell,Array.getElem?_modify,h.b,mcA]
theorem MC.s6 (h:MC W q a m V bd cr)(x:Int):MC (W.setCell ⟨q,6,none⟩ (.int .i64 x)) q a m V bd x:=by
 refine⟨?_,h.om.blk (Below.heap_setCell _ _ _ _ (by intro e;exact h.ne e.symm)),h.ne,h.vl,h.ri⟩
 simp[World.setCell,Array.getElem?_modify,h.b,mcA]
end
def lastC (n:Int):Int:=if n=4 then 4 else if n=5 then 35 else 0
def RowU (W:World)(g:Nat)(l:List Int)(t:List Value):Prop:=W.heap[g]?=some (.cells (l.map (Value.int .u16)++t).toArray 22 (0,0))
section
variable {W W':World} {g:Nat} {l p q:List Int} {x y:Int} {t:List Value}
theorem RowU.lt (h:RowU W g l t):g<W.heap.size:=(Array.getElem?_eq_some_iff.1 h).1
theorem RowU.later (h:RowU W g l t)(hb:Below W.heap.size W W'):RowU W' g l t:=(hb.block g h.lt).trans h
theorem RowU.cell (h:RowU W g (p++x::q) t){m:Nat}(hm:p.length=m):W.cell? ⟨g,m,none⟩=some (.int .u16 x):=by
 subst hm;unfold RowU at h;simp[World.cell?,h]
theorem RowU.fr (h:RowU W g l t)(m:Nat):W.frozen? ⟨g,m,none⟩=false:=by unfold RowU at h;simp[World.frozen?,h]
theorem RowU.set (h:RowU W g (p++x::q) t){m:Nat}(hm:p.length=m)(y:Int):RowU (W.setCell ⟨g,m,none⟩ (.int .u16 y)) g (p++y::q) t:=by
 subst hm;unfold RowU at *;simp[World.setCell,Array.getElem?_modify,h]
end
theorem isNaN_any (x:Int)(w:World):Calls Tryz.prog 175 #[.int .u16 x] w fun en w'=>en=.returned (.bool false)∧w'=w:=by
 go_enter Tryz.func175,Tryz.ntmps175
 go_wp2
 go_ret
 simp
theorem less_any (x y:Int)(w:World):Calls Tryz.prog 165 #[.int .u16 x,.int .u16 y] w fun en w'=>en=.returned (.bool (decide (x<y)))∧w'=w:=by
 go_enter Tryz.func165,Tryz.ntmps165
 go_wp2_with (go_at_call 175;refine(isNaN_any _ _).mono ?_;rintro e w' ⟨rfl,rfl⟩)
 go_ret
 simp
theorem Only.of_below {p:Nat}{w w':World}(h:Below w.heap.size w w'):Only p w w':=⟨h.os,h.tape,h.output,h.size,fun k hk _=>h.block k hk⟩
theorem less_same (x y:Int)(w:World):Calls Tryz.prog 165 #[.int .u16 x,.int .u16 y] w fun en w'=>en=.returned (.bool (decide (x<y)))∧w=w':=(less_any x y w).mono fun _ _ h=>⟨h.1,h.2.symm⟩
theorem pw_ins {p q:List Int}{x y:Int}(h:(p++[y]++q).Pairwise (·≤·))(hq:∀ z∈q,x<z)(hx:y≤x):(p++[y]++x::q).Pairwise (·≤·):=by
 rw[List.pairwise_append] at h ⊢
 refine⟨h.1,List.pairwise_cons.2 ⟨fun z hz=>Int.le_of_lt (hq z hz),h.2.1⟩,fun a ha b hb=>?_⟩
 rcases List.mem_cons.1 hb with rfl|hb
 ·rcases List.mem_append.1 ha with ha2|ha2
  ·have:=(List.pairwise_append.1 h.1).2.2 a ha2 y (by simp)
   omega
  ·rw[List.mem_singleton.1 ha2];exact hx
 ·exact h.2.2 a ha b hb
theorem isort_any (g cap:Nat)(l:List Int)(t:List Value)(n:Nat)(w:World)(hn:l.length=n)(hl:n≤12)(h:RowU w g l t) :
  Calls Tryz.prog 159 #[.slice (some ⟨g,0,none⟩) n cap,.int .i64 0,.int .i64 n] w fun en w'=>en=.returned (.tuple #[])∧∃ s:List Int,s.Perm l∧s.Pairwise (·≤·)∧RowU w' g s t∧Only g w w':=by
 go_enter Tryz.func159,Tryz.ntmps159
 go_wp2
 rcases hl0:l with _|⟨x0,l0⟩
 ·subst hl0
  have hn0:n=0:=by simpa using hn.symm
  subst hn0
  go_loopw [6] (fun i wr=>i=.int .i64 1∧wr=w) (fun _ _=>0)
  case atStart=>exact⟨rfl,rfl⟩
  case round =>
   obtain⟨rfl,rfl⟩:=hrel
   go_wp2
   go_end0
   exact⟨rfl,[],List.Perm.refl _,by simp,h,Only.refl _ _⟩
 go_loopw [6] (fun i wr=>∃ (s r:List Int) (m:Nat),s.length=m∧1≤m∧i=.int .i64 m∧(s++r).Perm l∧s.Pairwise (·≤·)∧RowU wr g (s++r) t∧Only g w wr) (fun i _=>n-(intOf i).toNat)
 case atStart=>exact⟨[x0],l0,1,rfl,by omega,by simp,by rw[hl0];simp,by simp,by rw[hl0] at h;exact h,Only.refl _ _⟩
 case round =>
  obtain⟨s,r,m,hm,hm1,rfl,hp,hw,hr,ho⟩:=hrel
  have hlen:m+r.length=n:=by have:=hp.length_eq;rw[List.length_append] at this;omega
  rcases r with _|⟨x,r⟩
  ·simp at hlen
   subst hlen
   go_wp2
   go_end0
   exact⟨rfl,s,by simpa using hp,hw,by simpa using hr,ho⟩
  ·have hlt:(m:Int)<n:=by simp at hlen;omega
   go_wp2
   have HP:=hd0 hp
   have HO:=hd0 ho
   have HNL:=hd0 hlen
   obtain⟨N,hN⟩:∃ N:Int,(n:Int)=N:=⟨_,rfl⟩
   clear hp ho hlen h hl0
   go_loopw [7] (fun j wx=>∃ (p q:List Int) (k:Nat),p.length=k∧j=.int .i64 k∧(p++x::q).Perm (s++[x])∧(p++q).Pairwise (·≤·)∧(∀ z∈q,x<z)∧RowU wx g (p++x::(q++r)) t∧Only g w wx) (fun j _=>(intOf j).toNat)
   case atStart=>exact⟨s,[],m,hm,rfl,List.Perm.refl _,by simpa using hw,by simp,by simpa using hr,HO.out⟩
   case round =>
    obtain⟨p,q,k,hk,rfl,hpp,hpw,hq,hrx,hox⟩:=hrel
    have hg:=hrx.lt
    rcases p.eq_nil_or_concat with rfl|⟨p',y,hpe⟩
    ·simp at hk
     subst hk
     go_upto_region 4 with fail
     refine wp_region_later (by kernel_rfl) (by kernel_rfl) ?_
     repeat (go_big_quiet_step (fail))
     refine wpQuiet_nil ?_
     rintro _ ⟨k2,rfl⟩
     have hr2:=hrx.later k2.h
     have ho2:Only g w k2.out:=hox.trans (Only.of_below k2.h)
     go_wp2
     have hl2:=hpp.length_eq
     simp at hl2
     refine⟨⟨x::q,r,m+1,by simp;omega,by omega,by simp,?_,List.pairwise_cons.2 ⟨fun z hz=>Int.le_of_lt (hq z hz),by simpa using hpw⟩,hr2,ho2⟩,by simp[intOf];omega⟩
     exact((hpp.append_right r).trans (by simp)).trans HP.out
    ·rw[List.concat_eq_append] at hpe
     subst hpe
     rw[List.length_append] at hk
     obtain⟨m',hm'⟩:∃ m',p'.length=m':=⟨_,rfl⟩
     rw[hm'] at hk
     simp only[List.length_cons,List.length_nil] at hk
     subst hk
     have e1:p'++[y]++x::(q++r)=p'++y::(x::(q++r)):=by simp
     have c1:∀ k:Later wr,k.out.cell? ⟨g,m'+1,none⟩=some (.int .u16 x):=fun k=>(hrx.later k.h).cell (by simp;exact hm')
     have c0:∀ k:Later wr,k.out.cell? ⟨g,m',none⟩=some (.int .u16 y):=fun k=>by
      have:=hrx.later k.h;rw[e1] at this;exact this.cell hm'
     have i0:(0:Int)≤(m':Int):=by omega
     have i1:(m':Int)+1<n:=by
      have:=HNL.out;have h2:=hpp.length_eq;simp at h2;simp at this;omega
     go_upto_region 4 with fail
     refine wp_region_later (by kernel_rfl) (by kernel_rfl) ?_
     repeat (go_big_quiet_step (first|(go_at_call 165;exact Calls.later_same (less_same _ _ _))))
     refine wpQuiet_nil ?_
     rintro _ ⟨k2,rfl⟩
     have hr2:=hrx.later k2.h
     rw[e1] at hr2
     have ho2:Only g w k2.out:=hox.trans (Only.of_below k2.h)
     clear c1 c0
     by_cases hxy:x<y
     ·have dxy:decide (x<y)=true:=decide_eq_true hxy
      have hx1:=hr2.cell (m:=m') hm'
      have hr3:=hr2
      rw[show p'++y::(x::(q++r))=(p'++[y])++x::(q++r) by simp] at hr3
      have hx2:=hr3.cell (m:=m'+1) (by simp;exact hm')
      have hf1:=hr2.fr m'
      have hf2:=hr2.fr (m'+1)
      go_wp2
      go_region
      all_goals go_wp2
      have hr4:=hr3.set (m:=m'+1) (by simp;exact hm') y
      rw[show(p'++[y])++y::(q++r)=p'++y::(y::q++r) by simp] at hr4
      have hr5:=hr4.set (m:=m') hm' x
      refine⟨⟨p',y::q,m',hm',rfl,?_,by simpa using hpw,fun z hz=>?_,hr5,(ho2.trans (Only.set g k2.out (m'+1) (.int .u16 y))).trans ((Only.set g _ m' (.int .u16 x)).trans (Only.of_below ((Below.refl _ _).drew)))⟩,by simp[intOf]⟩
      ·exact((List.Perm.append_left p' (List.Perm.swap y x q)).trans (by simp)).trans hpp
      ·rcases List.mem_cons.1 hz with rfl|hz
       ·exact hxy
       ·exact hq z hz
     ·have dxy:decide (x<y)=false:=decide_eq_false hxy
      go_wp2
      have hl2:=hpp.length_eq
      simp at hl2
      refine⟨⟨p'++[y]++x::q,r,m+1,by simp;omega,by omega,by simp,?_,pw_ins hpw hq (by omega),by simpa using hr2,ho2⟩,by simp[intOf];omega⟩
      exact((hpp.append_right r).trans (by simp)).trans HP.out
theorem bitsLen64_any (n:Nat)(hn:n≤12)(w:World):Calls Tryz.prog 169 #[.int .u64 n] w fun en w'=>(∃ v:Int,en=.returned (.int .i64 v))∧w'=w:=by
 rcases n with _|_|_|_|_|_|_|_|_|_|_|_|_|n
 all_goals first
  | omega
  | (go_enter Tryz.func169, Tryz.ntmps169
     go_wp2
     go_ret
     exact⟨⟨_,rfl⟩,rfl⟩)
theorem bitsLen_any (n:Nat)(hn:n≤12)(w:World):Calls Tryz.prog 158 #[.int .u64 n] w fun en w'=>(∃ v:Int,en=.returned (.int .i64 v))∧w'=w:=by
 go_enter Tryz.func158,Tryz.ntmps158
 go_wp2_with (go_at_call 169;refine(bitsLen64_any n hn _).mono ?_;rintro e w' ⟨⟨v,rfl⟩,rfl⟩)
 go_ret
 exact⟨⟨_,rfl⟩,rfl⟩
theorem pdq_any (g cap:Nat)(l:List Int)(t:List Value)(n:Nat)(v:Int)(w:World)(hn:l.length=n)(hl:n≤12)(h:RowU w g l t) :
  Calls Tryz.prog 157 #[.slice (some ⟨g,0,none⟩) n cap,.int .i64 0,.int .i64 n,.int .i64 v] w fun en w'=>en=.returned (.tuple #[])∧∃ s:List Int,s.Perm l∧s.Pairwise (·≤·)∧RowU w' g s t∧Only g w w':=by
 go_enter Tryz.func157,Tryz.ntmps157
 go_wp2
 go_loopw [1,2] (fun a b wr=>a=.int .i64 0∧b=.int .i64 n∧wr=w) (fun _ _ _=>0)
 case atStart=>exact⟨rfl,rfl,rfl⟩
 case round =>
  obtain⟨rfl,rfl,rfl⟩:=hrel
  have hle:(n:Int)≤12:=by omega
  go_wp2_with (go_at_call 159;refine(isort_any g cap l t n _ hn hl h).mono ?_;rintro e w' ⟨rfl,hs⟩)
  refine bodyPost_ret (results_none rfl _ _ _) rfl ?_
  exact⟨rfl,hs⟩
theorem sort_any (g cap:Nat)(l:List Int)(t:List Value)(n:Nat)(w:World)(hn:l.length=n)(hl:n≤12)(h:RowU w g l t) :
  Calls Tryz.prog 148 #[.slice (some ⟨g,0,none⟩) n cap] w fun en w'=>en=.returned (.tuple #[])∧∃ s:List Int,s.Perm l∧s.Pairwise (·≤·)∧RowU w' g s t∧Only g w w':=by
 go_enter Tryz.func148,Tryz.ntmps148
 go_wp2_with (first
  |(go_at_call 158;refine(bitsLen_any n hl _).mono ?_;rintro e w' ⟨⟨v,rfl⟩,rfl⟩)
  |(go_at_call 157;refine(pdq_any g cap l t n _ _ hn hl h).mono ?_;rintro e w' ⟨rfl,hs⟩))
 go_end0
 exact⟨rfl,hs⟩
open Go.RowKit Go.Shelf
open Go.Maps (Keyed int_keyed has has_eq)
abbrev encU:Int→Value:=Value.int .u16
theorem keyOf_u16 {P:Program}{k:TypeId}(hk:P.underlying k=some (.int .u16)){key:Value}{kl:Lit}(h:keyOf P k key=some kl):∃ x:Int,key=encU x∧kl=.int .u16 x:=by
 cases key <;> simp[keyOf,hk,mapKey] at h
 rename_i q a
 obtain⟨⟨rfl,hw⟩,rfl⟩:=h
 exact⟨a,rfl,rfl⟩
def CollU {H:Type}(D0:DataW H)(left:Lit→Bool)(ss:List Int):Prop:=ss.Nodup∧∀ x,x∈ss↔(has D0 (.int .u16 x)=true∧left (.int .u16 x)=false)
theorem CollU.start {H:Type}(D0:DataW H):CollU D0 (has D0) []:=⟨List.nodup_nil,fun x=>by cases has D0 (.int .u16 x) <;> simp⟩
theorem CollU.step {H:Type}{D0:DataW H}{left:Lit→Bool}{ss:List Int}(h:CollU D0 left ss){x:Int}{y:DataW H}(hlk:left (.int .u16 x)=true)(hat:∀ zd,D0.atKey (.int .u16 x) zd=y):CollU D0 (fun z=>left z&&!z.sameKey (.int .u16 x)) (ss++[x]):=by
 have hhas:has D0 (.int .u16 x)=true:=Maps.has_true_of_atKey hat
 have hnew:x ∉ ss:=fun hx=>by have:=((h.2 x).1 hx).2;rw[hlk] at this;cases this
 refine⟨List.nodup_append.2 ⟨h.1,by simp,fun a ha b hb=>by simp at hb;subst hb;exact fun e=>hnew (e ▸ ha)⟩,fun y=>?_⟩
 by_cases hy:y=x
 ·subst hy;simp[hhas,Lit.sameKey]
 ·simp[h.2 y,hy,Lit.sameKey]
theorem keys1_R {H:Type}(F:Fence)(n:Nat)(h10:F.fn 149)(hro:F.round=none)(hn:1≤n)(l Bm b nn:Nat)(D0:DataW H){R:Value→Option (DataW H × List MemPlace)}(J Jx:List Int→World→Prop)
  (hY:∀ pre x W,J pre W→pre.length<Maps.size D0→YieldAt F (n-1) Tryz.prog l #[encU x] W fun e W' =>
   (e=.returned (.bool true)∧J (pre++[x]) W'∧KeepsWalks W W')∨(e=.returned (.bool false)∧Jx (pre++[x]) W'))
  (W:World) (hJ:AbidesFrom W.heap.size J) (hm:W.cell? ⟨Bm,0,none⟩=some (.map (some b))) (hown:W.ownsMap Tryz.prog 22 R b nn D0) (h0:J [] W) :
  CallsIn F n Tryz.prog 149 #[.func (.yield l) #[] #[],.pointer (some ⟨Bm,0,none⟩)] W fun e W'=>(∃ v,e=.returned v) ∧
   ((∃ ss:List Int,(ss.Nodup∧∀ x,x∈ss↔has D0 (.int .u16 x)=true)∧J ss W')∨(∃ pre:List Int,True∧Jx pre W')):=by
 refine callsIn_of_wp Tryz.func149 rfl h10 ?_ hro
 simp only[Tryz.ntmps149,List.size_toArray,List.length_cons,List.length_nil,Nat.reduceAdd,Nat.reduceSub,Array.replicate_succ,Array.replicate_zero,List.push_toArray,List.append_toArray,List.nil_append,List.cons_append]
 gi_wp2_with (first
  |(gi_at_range;refine wpListIn_range_own _ rfl _ 162 rfl 22 166 (int_keyed Tryz.underlying22) Tryz.underlying162 _ b nn _ rfl hown ?_;intro w0 hrg0 hg0 hs0)
  | gi_in)
 go_frame
 gi_loopw [3] (fun _ wr=>∃ (left:Lit→Bool) (cnt:Nat) (ss:List Int),wr.ranges Tryz.prog 22 R b W.heap.size nn D0 left cnt∧ss.length+cnt≤Maps.size D0∧CollU D0 left ss∧J ss wr)
  (fun _ wr=>wr.rangeLeft b W.heap.size)
 case atStart =>
  exact⟨_,_,[],hrg0,by simp,CollU.start D0,hJ [] W w0 none h0 hg0 (fun r e=>by cases e)⟩
 case round =>
  obtain⟨left,cnt,ss,hrg,hcs,hC,hJs⟩:=hrel
  gi_wp2_with (first
   |(gi_at_next;refine wpListIn_next_ranges _ rfl _ rfl 22 (int_keyed Tryz.underlying22) R encU id (fun key kl hk=>by obtain⟨x,hx,_⟩:=keyOf_u16 Tryz.underlying22 hk;exact⟨x,hx⟩) (fun v _ _=>⟨v,rfl⟩) b W.heap.size nn _ _ _ rfl hrg ?_ ?_)
   | gi_in)
  ·intro hc0 hl0
   gi_wp2
   go_end0
   exact⟨⟨_,rfl⟩,.inl ⟨ss,⟨hC.1,fun x=>by rw[hC.2 x,hl0];simp⟩,hJs⟩⟩
  ·intro x c kl yd yp w2 cnt2 hkey hlk hv hat hrg2 hlt hg2 hs2 hen
   obtain⟨x',ex,rfl⟩:=keyOf_u16 Tryz.underlying22 hkey
   obtain rfl:x=x':=by simpa [encU] using ex
   have hJ2:J ss w2:=hJ ss wr w2 (some W.heap.size) hJs hg2 (fun r e=>by cases e;exact⟨Nat.le_refl _,hrg.iter_walk⟩)
   obtain⟨fn,tmps,assign,body,hy,hR⟩:=hY ss x w2 hJ2 (by omega)
   clear hs2
   gi_wp2
   refine hR.mono ?_
   have hC2:=hC.step hlk hat
   rintro e W3 (⟨rfl,hJ3,hk3⟩|⟨rfl,hJx3⟩)
   ·gi_wp2
    have hrg3:=hrg2.of_walks hk3
    go_roundw
    case rel=>exact⟨_,cnt2,ss++[x],hrg3,by simp;omega,hC2,hJ3⟩
    case measure=>rw[hrg3.left_eq,hrg.left_eq];exact hlt
   ·gi_wp2
    refine bodyPost_ret (results_none rfl _ _ _) rfl ?_
    exact⟨⟨_,rfl⟩,.inr ⟨ss++[x],trivial,hJx3⟩⟩
theorem keys_R (mb:Option Nat)(w:World) :
  Calls Tryz.prog 133 #[.map mb] w fun e w'=>e=.returned (.func (.func 149) #[] #[.pointer (some ⟨w.heap.size,0,none⟩)])∧w'=w.alloc (.cells #[.map mb] 162):=by
 go_enter Tryz.func133,Tryz.ntmps133
 go_wp2
 go_ret
 exact⟨rfl,rfl⟩
theorem keysStops_R {H:Type}(F:Fence)(n:Nat)(h10:F.fn 149)(hro:F.round=none)(hn:1≤n)(Bm b nn:Nat)(D0:DataW H){R:Value→Option (DataW H × List MemPlace)}(w:World)(hBm:Bm<w.heap.size)
  (hm:w.cell? ⟨Bm,0,none⟩=some (.map (some b))) (hown:w.ownsMap Tryz.prog 22 R b nn D0) :
  SeqStopsK F n Tryz.prog 149 #[.pointer (some ⟨Bm,0,none⟩)] (fun x:Int=>#[encU x]) KeepsWalks (fun ss=>ss.Nodup∧∀ x,x∈ss↔has D0 (.int .u16 x)=true) (fun _=>True) (Maps.size D0) w:=fun l J Jx W hW hJ _ hY h0=>by
 have hown':W.ownsMap Tryz.prog 22 R b nn D0:=by
  have hbl:=hown.lt
  obtain⟨es,clock,hb,Ft,hs,hD⟩:=hown
  exact⟨es,clock,(hW.block b hbl).trans hb,Ft,hs,hD⟩
 exact keys1_R F n h10 hro hn l Bm b nn D0 J Jx hY W hJ ((hW.cell (p:=⟨Bm,0,none⟩) hBm).trans hm) hown' h0
open Go.RowKit Go.Shelf
attribute [local go_sem] Oper.semAt_some
theorem info_u16:(Tryz.prog.info? 22).map (fun i=>(i.zero,i.size,i.bytes))=some (some (.int .u16 0),1,2):=by kernel_rfl
def Us (w:World)(B:Nat)(v:Value)(l:List Int):Prop:=w.ownsRow B 22 1 v l.length (l.map encU)
theorem appendSeq_U (g:Nat)(lb:Array Value)(eg:∀ args w,(callFunc g args).run Tryz.prog w=.ok (.enter g args) w)(S Sp:List Int→Prop)(N:Nat)(hN:N≤100000)(w0 w:World)(hb0:Below w0.heap.size w0 w)
  (hseq:SeqStopsK Fence.wide 2 Tryz.prog g lb (fun x:Int=>#[encU x]) KeepsWalks S Sp N w0) :
  CallsIn Fence.wide 3 Tryz.prog 156 #[.slice none 0 0,.func (.func g) #[] lb] w fun e w'=>∃ (v:Value) (ss:List Int),e=.returned v∧S ss∧Us w' w.heap.size v ss∧(v=.slice none 0 0↔ss=[])∧Below w.heap.size w w':=by
 obtain⟨i0,hi,hz0,hz1,hz2⟩:=info_parts info_u16
 refine callsIn_of_wp_marks Tryz.func156 rfl trivial ?_ rfl
 simp only[Tryz.ntmps156,List.size_toArray,List.length_cons,List.length_nil,Nat.reduceAdd,Nat.reduceSub,Array.replicate_succ,Array.replicate_zero,List.push_toArray,List.append_toArray,List.nil_append,List.cons_append]
 gi_wp2
 have bO:=Boxed.new w 23 (.slice none 0 0)
 have hB0:Below w.heap.size w (w.alloc (.cells #[.slice none 0 0] 23)):=(Below.refl _ w).alloc (Nat.le_refl _) _
 refine wpIn_rangeFunc_ownG rfl (by decide) (gf:=g) (lb:=lb) rfl trivial eg hseq walksK_t (fun W l o o' h1 h2 h3 h4=>walksK_b (w:=w) W l o o' (by have:=h1;simp at this;omega) h2 h3 h4) (hb0.trans (hB0.mono hb0.size)) (fun _=>rfl)
  (fun pre W=>(∃ v,Boxed W w.heap.size 23 v∧W.ownsRow w.heap.size 22 1 v pre.length (pre.map encU)∧(v=.slice none 0 0↔pre=[]))∧Below w.heap.size w W)
  (fun _ _ _=>False)
  (OwnFrom.and (Own.from (holdsRow_own w.heap.size w.heap.size 23 22 1 (fun pre=>pre.length) (fun pre=>pre.map encU) (fun pre v=>v=.slice none 0 0↔pre=[])) _) (ownFrom_below (Nat.le_refl _) (by simp)))
  (fun _ _ _ _ _ hs _ _=>hs)
  ⟨⟨_,bO,World.ownsRow_nil _ _ _ _,by simp⟩,hB0⟩
  (fun x=>{ tmps:=#[.slice none 0 0,.func (.func g) #[] lb,.pointer (some ⟨w.heap.size,0,none⟩),undef,.slice none 0 0,encU x,.func (.func g) #[] lb,encU x,undef,undef,undef,undef,undef],defers:=[] }) ?assign ?body ?done ?stop
 case assign =>
  intro l x W K hK
  gi_wp2
  exact hK
 case body =>
  rintro l pre x W ⟨⟨v,hv,hrow,hnil⟩,hB⟩ hlt
  have hc:=hv.cell
  gi_wp2_with (gi_at_builtin;refine wpListIn_append_own _ rfl _ _ 23 rfl w.heap.size 22 i0 (.int .u16 0) 1 2 Tryz.underlying23 hi hz0 hz1 hz2 rfl (by decide) _ _ _ rfl (hrow.alloc _) ⟨W.heap.size,0,none⟩ 1 1 [encU x] rfl rfl (cell_one_new _ _ _) (by simp[Value.oneCell']) (by unfold maxLen;omega) (by omega) (by have:=hB.size;simp;omega) ?_;intro v' w1 hown' hgrow _;obtain⟨g',cap',rfl⟩:=ownsRow_succ hown';obtain⟨hv1,hv2,hr2,hk2,hb2⟩:=hv.appended (by decide) hrow hB.size (Nat.le_refl _) hown' hgrow;have hc1:=hv1.cell;have hf1:=hv1.frozen)
  exact⟨hk2.from _,hk2.walks,⟨_,hv2,by simpa using hr2,by simp⟩,hB.trans hb2⟩
 case done =>
  rintro D ys W hD hS ⟨⟨v,hv,hrow,hnil⟩,hB⟩ hK
  have hc:=hv.cell
  gi_wp2
  refine⟨by simp,.inl ⟨_,_,rfl,run_takeDeferred hK,?_⟩⟩
  exact⟨_,results_tmp rfl _ _ _,v,ys,rfl,hS,ownsRow_putObj hrow _ hK rfl,hnil,hB.trans (belowK_b (w:=w) (Nat.le_refl _) W D _ _ (by simp at hD;omega) hK rfl rfl)⟩
 case stop =>
  rintro D c pre W _ _ h _
  exact h.elim
open Go.RowKit Go.Shelf
theorem isort_nil (w:World):Calls Tryz.prog 159 #[.slice none 0 0,.int .i64 0,.int .i64 0] w fun en w'=>en=.returned (.tuple #[])∧w'=w:=by
 go_enter Tryz.func159,Tryz.ntmps159
 go_wp2
 go_loopw [6] (fun i wr=>i=.int .i64 1∧wr=w) (fun _ _=>0)
 case atStart=>exact⟨rfl,rfl⟩
 case round =>
  obtain⟨rfl,rfl⟩:=hrel
  go_wp2
  go_end0
  exact⟨rfl,rfl⟩
theorem pdq_nil (v:Int)(w:World):Calls Tryz.prog 157 #[.slice none 0 0,.int .i64 0,.int .i64 0,.int .i64 v] w fun en w'=>en=.returned (.tuple #[])∧w'=w:=by
 go_enter Tryz.func157,Tryz.ntmps157
 go_wp2
 go_loopw [1,2] (fun a b wr=>a=.int .i64 0∧b=.int .i64 0∧wr=w) (fun _ _ _=>0)
 case atStart=>exact⟨rfl,rfl,rfl⟩
 case round =>
  obtain⟨rfl,rfl,rfl⟩:=hrel
  go_wp2_with (go_at_call 159;refine(isort_nil _).mono ?_;rintro e w' ⟨rfl,rfl⟩)
  refine bodyPost_ret (results_none rfl _ _ _) rfl ?_
  exact⟨rfl,rfl⟩
theorem sort_nil (w:World):Calls Tryz.prog 148 #[.slice none 0 0] w fun en w'=>en=.returned (.tuple #[])∧w'=w:=by
 have L0:=fun w=>bitsLen_any 0 (by decide) w
 go_enter Tryz.func148,Tryz.ntmps148
 go_wp2_with (first
  |(go_at_call 158;refine(L0 _).mono ?_;rintro e w' ⟨⟨v,rfl⟩,rfl⟩)
  |(go_at_call 157;refine(pdq_nil _ _).mono ?_;rintro e w' ⟨rfl,rfl⟩))
 go_end0
 exact⟨rfl,rfl⟩
theorem Us.shape {w:World}{B:Nat}{v:Value}{l:List Int}(h:Us w B v l):(v=.slice none 0 0∧l=[])∨∃ g cap t,v=.slice (some ⟨g,0,none⟩) l.length cap∧B≤g∧RowU w g l t∧(∀ (w':World) (s:List Int),s.length=l.length→RowU w' g s t→Us w' B v s):=by
 rcases h.2 with⟨h1,h2⟩|⟨g,cap,cur,hv,hg,hh,h3,h4,h5,h6⟩
 ·exact .inl ⟨h1,List.eq_nil_of_length_eq_zero h2⟩
 ·refine .inr ⟨g,cap,cur.toList.drop l.length,hv,hg,?_,fun w' s hs hr=>?_⟩
  ·unfold RowU
   have e:l.map (Value.int .u16)++cur.toList.drop l.length=cur.toList:=by
    rw[Nat.mul_one] at h6
    rw[←h6];exact List.take_append_drop _ _
   rw[e];exact hh
  ·rw[Nat.mul_one] at h5
   refine⟨by simp,.inr ⟨g,cap,(s.map (Value.int .u16)++cur.toList.drop l.length).toArray,by rw[hs];exact hv,hg,hr,by rw[hs];exact h3,h4,?_,?_⟩⟩
   ·simp;rw[hs,h5];omega
   ·simp[encU]
theorem collect_U (g:Nat)(lb:Array Value)(eg:∀ args w,(callFunc g args).run Tryz.prog w=.ok (.enter g args) w)(S Sp:List Int→Prop)(N:Nat)(hN:N≤100000)(w0 w:World)(hb0:Below w0.heap.size w0 w)
  (hseq:SeqStopsK Fence.wide 2 Tryz.prog g lb (fun x:Int=>#[encU x]) KeepsWalks S Sp N w0) :
  Calls Tryz.prog 147 #[.func (.func g) #[] lb] w fun e w'=>∃ (v:Value) (ss:List Int),e=.returned v∧S ss∧Us w' w.heap.size v ss∧(v=.slice none 0 0↔ss=[])∧Below w.heap.size w w':=by
 have AP:=callsIn_wide.1 (appendSeq_U g lb eg S Sp N hN w0 w hb0 hseq)
 go_enter Tryz.func147,Tryz.ntmps147
 go_wp2_with (go_at_call 156;refine AP.mono ?_;rintro e w' ⟨v,ss,rfl,h⟩)
 go_ret
 exact⟨v,ss,rfl,h⟩
theorem sorted_U (g:Nat)(lb:Array Value)(eg:∀ args w,(callFunc g args).run Tryz.prog w=.ok (.enter g args) w)(S Sp:List Int→Prop)(N:Nat)(hN:N≤100000)(hS:∀ ss,S ss→ss.length≤12)(w0 w:World)(hb0:Below w0.heap.size w0 w)
  (hseq:SeqStopsK Fence.wide 2 Tryz.prog g lb (fun x:Int=>#[encU x]) KeepsWalks S Sp N w0) :
  Calls Tryz.prog 132 #[.func (.func g) #[] lb] w fun e w'=>∃ (v:Value) (ss s:List Int),e=.returned v∧S ss∧s.Perm ss∧s.Pairwise (·≤·)∧Us w' w.heap.size v s∧(v=.slice none 0 0↔s=[])∧Below w.heap.size w w':=by
 have CO:=collect_U g lb eg S Sp N hN w0 w hb0 hseq
 go_enter Tryz.func132,Tryz.ntmps132
 go_wp2_with (go_at_call 147;refine CO.mono ?_;rintro e w1 ⟨v,ss,rfl,hSs,hU,hnil,hb⟩)
 rcases hU.shape with⟨rfl,rfl⟩|⟨gb,cap,t,rfl,hB,hR,hback⟩
 ·go_wp2_with (go_at_call 148;refine(sort_nil _).mono ?_;rintro e w' ⟨rfl,rfl⟩)
  go_ret
  exact⟨_,[],[],rfl,hSs,List.Perm.refl _,by simp,hU,by simp,hb⟩
 ·have ST:=sort_any gb cap ss t ss.length w1 rfl (hS ss hSs) hR
  obtain⟨n,hn⟩:∃ n,ss.length=n:=⟨_,rfl⟩
  rw[hn] at ST
  rw[hn] at hU hback hnil ⊢
  go_wp2_with (go_at_call 148;refine ST.mono ?_;rintro e w2 ⟨rfl,s,hp,hw,hr,ho⟩)
  go_ret
  exact⟨_,ss,s,rfl,hSs,hp,hw,hback w2 s (by rw[hp.length_eq,hn]) hr,hnil.trans (by constructor <;> (intro h;subst h;first|exact List.Perm.eq_nil hp|exact(List.Perm.nil_eq hp).symm)),hb.trans (ho.below hB hb.size)⟩
section
variable {w:World} {ops:Array Oper} {rest:List Oper} {o:Oper} {a:Act} {Q:Exit→Act→World→Prop}
theorem wpList_append_two (hgd:o.guard=Option.none)(s x:Operand)
  (ho:o.op=.call { callee:=.builtin .append,args:=#[s,x],argTypes:=#[39,39] })
  (B:Nat) (v:Value) (l:List UInt8) (W:World) (p q:UInt8) (hw:w=W.alloc (.cells #[.int .u8 (p.toNat:Int),.int .u8 (q.toNat:Int)] 5)) (hs:a.eval s=v) (hown:Bys W B v l)
  (hx:a.eval x=.slice (some ⟨W.heap.size,0,Option.none⟩) 2 2)
  (hsz:l.length+2≤1099511627776) (hB:B≤W.heap.size)
  (h:∀ v' w',Bys w' B v' (l++[p,q])→Below B W w'→wpList Tryz.prog ops Q rest (a.put o.dst v') w'):wpList Tryz.prog ops Q (o::rest) a w:=by
 subst hw
 refine wpList_append_bys hgd s x ho B v l hs (hown.alloc _) ⟨W.heap.size,0,Option.none⟩ 2 [p,q] 2 rfl hx (fun j hj=>?_) (by simpa using hsz) (by simp;omega) (fun v' w' h1 h2=>h v' w' h1 (((Below.refl _ _).alloc hB _).trans h2))
 have hj':j<2:=by simpa using hj
 obtain rfl|rfl:j=0∨j=1:=by omega
 ·simp[Addr.add,byteV]
 ·simp[Addr.add,byteV]
end
theorem zeroCells_str (k:Nat):Builtin.zeroCells (Value.int .u8 0).cells k=(Lib.strCells (bs (List.replicate k 0))).toArray:=by
 rw[strCells_bs]
 apply Array.ext
 ·simp[Builtin.zeroCells,Value.cells]
 ·intro j h1 h2
  simp[Builtin.zeroCells,Value.cells,byteV,Nat.mod_one]
theorem run_append_zeros (w:World)(ty:TypeId)(b:Option Addr)(n c k:Nat)(hk:n+k≤1099511627776) :
  (Builtin.append_ #[39,3] ty #[.slice b n c,.int .i64 k]).run Tryz.prog w=(Builtin.append_ #[39,9] ty #[.slice b n c,.string (bs (List.replicate k 0))]).run Tryz.prog w:=by
 obtain⟨i,hi,hz0,hz1,hz2⟩:=info_parts info_u8
 have hw:IntKind.i64.wrap (k:Int)=k:=by rw[IntKind.wrap_i64];omega
 have hneg:¬((k:Int)<0):=by omega
 have hsz:(bs (List.replicate k 0)).size=k:=by rw[bs_size];simp
 have hf:∀ w',(Builtin.firstCells 1 k (.string (bs (List.replicate k 0)))).run Tryz.prog w'=.ok (Builtin.zeroCells (Value.int .u8 0).cells k) w':=fun w'=>by
  have h:=Lib.run_firstCells_string (P:=Tryz.prog) (w:=w') 1 (bs (List.replicate k 0))
  rw[hsz] at h;rw[h,zeroCells_str]
 have h48:¬((281474976710656:Int)<(k:Int)):=by omega
 have h63:¬((9223372036854775807:Int)<(n:Int)+(k:Int)):=by omega
 have hz:Builtin.zeroCells (Value.int .u8 0).cells 0=#[]:=by simp[Builtin.zeroCells]
 have hw0:IntKind.i64.wrap 0=0:=by decide
 have hs0:(bs []).size=0:=rfl
 have hf0:∀ w',(Builtin.firstCells 1 0 (.string (bs []))).run Tryz.prog w'=.ok #[] w':=fun w'=>by
  have h:=Lib.run_firstCells_string (P:=Tryz.prog) (w:=w') 1 (bs [])
  rw[hs0] at h;rw[h,strCells_bs];rfl
 by_cases hroom:n+k≤c
 ·by_cases hk0:k=0
  ·subst hk0
   simp[Builtin.append_,run_underlying Tryz.underlying39,run_underlying Tryz.underlying3,run_underlying Tryz.underlying9,sizeOf,typeInfo,zeroValue,hi,hz0,hz1,hz2,asInt,asIntOf,hw,hneg,h48,Builtin.lenOf,hsz,hf,hw0,hs0,hf0,hz,show n≤c by omega]
  ·simp[Builtin.append_,run_underlying Tryz.underlying39,run_underlying Tryz.underlying3,run_underlying Tryz.underlying9,sizeOf,typeInfo,zeroValue,hi,hz0,hz1,hz2,asInt,asIntOf,hw,hneg,h48,Builtin.lenOf,hsz,hf,hroom,h63,hk0]
 ·have hns:¬(281474976710656<Builtin.nextslicecap (n+k) c):=by
   have:=growslice_fits (need:=n+k) (old:=c) (bytes:=1) (by omega) (by omega)
   omega
  by_cases hk0:k=0
  ·subst hk0
   simp[Builtin.append_,run_underlying Tryz.underlying39,run_underlying Tryz.underlying3,run_underlying Tryz.underlying9,sizeOf,typeInfo,zeroValue,hi,hz0,hz1,hz2,asInt,asIntOf,hw,hneg,h48,Builtin.lenOf,hsz,hf,hw0,hs0,hf0,hz,show ¬ n≤c by omega,show ¬((9223372036854775807:Int)<(n:Int)) by omega,show ¬(281474976710656<Builtin.nextslicecap n c) by simpa using hns]
  ·simp[Builtin.append_,run_underlying Tryz.underlying39,run_underlying Tryz.underlying3,run_underlying Tryz.underlying9,sizeOf,typeInfo,zeroValue,hi,hz0,hz1,hz2,asInt,asIntOf,hw,hneg,h48,Builtin.lenOf,hsz,hf,hroom,h63,hk0,hns]
section
variable {w:World} {ops:Array Oper} {rest:List Oper} {o:Oper} {a:Act} {Q:Exit→Act→World→Prop}
theorem wpList_append_zeros (hgd:o.guard=Option.none)(s x:Operand)
  (ho:o.op=.call { callee:=.builtin .append,args:=#[s,x],argTypes:=#[39,3] })
  (B:Nat) (v:Value) (l:List UInt8) (hs:a.eval s=v) (hown:Bys w B v l) (k:Nat) (hx:a.eval x=.int .i64 k)
  (hsz:l.length+k≤1099511627776) (hB:B≤w.heap.size)
  (h:∀ v' w',Bys w' B v' (l++List.replicate k 0)→Below B w w'→wpList Tryz.prog ops Q rest (a.put o.dst v') w'):wpList Tryz.prog ops Q (o::rest) a w:=by
 obtain⟨i,hi,hz0,hz1,hz2⟩:=info_parts info_u8
 refine wpList_plain hgd fun K hK=>?_
 obtain⟨v',w',hr,h1,h2,_⟩:=Lib.run_append_own_string (P:=Tryz.prog) w B 39 9 o.type 5 i Tryz.underlying39 Tryz.underlying9 hi hz0 hz1 hz2 v l.length (l.map byteV) hown (bs (List.replicate k 0))
  (by rw[bs_size,List.length_replicate];unfold maxLen;omega) (by rw[bs_size,List.length_replicate];omega) hB
 have hr2:(Builtin.append_ #[39,3] o.type #[v,.int .i64 k]).run Tryz.prog w=.ok v' w':=by
  rw[←hr]
  rcases hown.shape with⟨rfl,hl⟩|⟨g,cap,rfl,_⟩
  ·exact run_append_zeros w o.type _ 0 0 k (by omega)
  ·exact run_append_zeros w o.type _ _ cap k (by omega)
 unfold Oper.wp execOp
 simp only[ho,resolve,invoke,builtin,Sem.run_bind,Sem.run_pure,Result.andThen_ok,List.map_toArray,List.map_cons,List.map_nil,hs,hx,hr2]
 refine hK _ _ (h v' w' ?_ ((Below.refl _ _).grown h2 hB (fun k hk=>(World.ownsRow.lt hown k hk).1)))
 unfold Bys
 rw[bs_size,strCells_bs] at h1
 simpa using h1
end
end Go.Proofs.YtlkdfofpnmpidaaGreat
