/- ZQ07 -/
import Derived.Deep.MidRow
import Derived.Laws.ResultCell
import Derived.Laws.CopyRow
import Derived.Laws.StructEq
import Derived.Test.YtlkdfofpnmpidaaGreatZQ06
set_option linter.unusedVariables false
set_option linter.unusedSimpArgs false
set_option maxRecDepth 100000
set_option maxHeartbeats 16000000
namespace Go.Proofs.YtlkdfofpnmpidaaGreat
open Go.RowKit
def GB (T:TypeId)(W:World)(q:Nat)(A:Array Value):Prop:=W.heap[q]?=some (.cells A T (0,0))
section
variable {T:TypeId} {W W':World} {q:Nat} {A:Array Value}
theorem GB.lt (h:GB T W q A):q<W.heap.size:=by
 rcases Nat.lt_or_ge q W.heap.size with h1|h1
 ·exact h1
 ·unfold GB at h;rw[Array.getElem?_eq_none h1] at h;cases h
theorem GB.below {B:Nat}(h:GB T W q A)(hq:q<B)(hb:Below B W W'):GB T W' q A:=by
 unfold GB;rw[hb.block q hq];exact h
theorem GB.later (h:GB T W q A)(hb:Below W.heap.size W W'):GB T W' q A:=h.below h.lt hb
theorem GB.c (h:GB T W q A)(j:Nat)(v:Value)(hv:A[j]?=some v):W.cell? ⟨q,j,none⟩=some v:=by
 unfold GB at h;simp[World.cell?,h,hv]
theorem GB.fr (h:GB T W q A)(j:Nat):W.frozen? ⟨q,j,none⟩=false:=by unfold GB at h;simp[World.frozen?,h]
theorem GB.range (h:GB T W q A):W.rangeAt q 0 A.toList:=fun j v hv=>by
 rw[Nat.zero_add];exact h.c j v (by simpa using hv)
theorem GB.new (T:TypeId)(W:World)(A:Array Value):GB T (W.alloc (.cells A T)) W.heap.size A:=heap_alloc_new W _
theorem GB.other {t o:Nat}(h:GB T W q A)(ht:t≠q)(u:Value):GB T (W.setCell ⟨t,o,none⟩ u) q A:=by
 unfold GB;rw[Below.heap_setCell _ _ _ _ (by intro e;simp at e;omega)];exact h
theorem GB.only {p:Nat}(h:GB T W q A)(ho:Only p W W')(hne:q≠p):GB T W' q A:=by
 unfold GB;rw[ho.block q h.lt (by simpa using hne)];exact h
theorem GB.drew (h:GB T W q A):GB T W.drew q A:=by unfold GB at *;exact h
end
theorem GB.there {T:TypeId}{W:World}{q:Nat}{A:Array Value}{n:Nat}(h:GB T W q A)(hn:n≤A.size):W.there q 0 n:=fun j hj=>by
 rw[Nat.zero_add]
 refine⟨?_,h.fr j⟩
 rw[h.c j A[j] (by simp[show j<A.size by omega])];rfl
theorem GB.cellsOther {T:TypeId}{q t:Nat}{A:Array Value}(ht:t≠q):∀ (vs:List Value) (o:Nat) (W:World),GB T W q A→GB T (W.setCells t o vs) q A
 |[],_,_,h=>h
 | v::r,o,W,h=>GB.cellsOther ht r (o+1) _ (h.other ht v)
theorem below_cellsG {B t:Nat}{w:World}(ht:B≤t):∀ (vs:List Value) (o:Nat) (W:World),Below B w W→Below B w (W.setCells t o vs)
 |[],_,_,h=>h
 | v::r,o,W,h=>below_cellsG ht r (o+1) _ (below_set h ht v)
theorem GB.store {T:TypeId}{W:World}{b:Nat}{B A:Array Value}(h:GB T W b B)(hs:B.size=A.size)(h1:A.all (·.oneCell')=true):GB T (W.setCells b 0 A.toList) b A:=by
 have ht:=h.there (n:=A.size) (by omega)
 have r1:=run_storeCells_at Tryz.prog b 0 T A.toList 0 B W h (by simp;omega) (fun v hv=>(Array.all_eq_true_iff_forall_mem.1 h1) v (by simpa using hv))
 have r2:=run_storeCells_cells (P:=Tryz.prog) b 0 A.toList 0 W (fun j hj=>by simpa using (ht j (by simpa using hj)).1) (fun j hj=>by simpa using (ht j (by simpa using hj)).2)
  (fun v hv=>(Array.all_eq_true_iff_forall_mem.1 h1) v (by simpa using hv))
 simp only[Nat.add_zero] at r1 r2
 rw[r1] at r2
 have e:W.setRow b (B.toList.take 0++A.toList++B.toList.drop (0+A.toList.length)).toArray=W.setCells b 0 A.toList:=by
  injection r2
 unfold GB
 rw[←e]
 have e2:(B.toList.take 0++A.toList++B.toList.drop (0+A.toList.length)).toArray=A:=by
  rw[List.drop_of_length_le (by simp;omega)];simp
 rw[e2]
 exact setRow_heap W b _ _ _ _ h
theorem res_two {fn:Func}{ty:TypeId}{d:TypeDesc}{p u:Nat}(hf:fn.results=#[.cell p ty,.tmp u])(hd:(match d with|.struct _|.array _ _=>true|_=>false)=true)(hu:Tryz.prog.underlying ty=some d)(tmps:Array Value)(W:World)(b:Nat)(A:Array Value)(h2:tmps.getD p undef=.pointer (some ⟨b,0,none⟩))(hg:GB ty W b A)
  (hi:(Tryz.prog.info? ty).map (·.size)=some A.size):(results fn tmps).run Tryz.prog W=.ok (.tuple #[.agg A,tmps.getD u undef]) W:=by
 rw[results_cell_tmp (p:=p) (u:=u) (ty:=ty) hf,h2]
 simp[asAddr,run_loadVar_row W b ty ty A (0,0) _ hg hu (by cases d <;> first|rfl|exact hd) hi]
theorem res_one {fn:Func}{ty:TypeId}{d:TypeDesc}{p:Nat}(hf:fn.results=#[.cell p ty])(hd:(match d with|.struct _|.array _ _=>true|_=>false)=true)(hu:Tryz.prog.underlying ty=some d)(tmps:Array Value)(W:World)(b:Nat)(A:Array Value)(h2:tmps.getD p undef=.pointer (some ⟨b,0,none⟩))(hg:GB ty W b A)
  (hi:(Tryz.prog.info? ty).map (·.size)=some A.size):(results fn tmps).run Tryz.prog W=.ok (.agg A) W:=by
 have h3:tmps[p]?.getD undef=.pointer (some ⟨b,0,none⟩):=by simpa using h2
 simp only[results,hf]
 simp[h3,asAddr,run_loadVar_row W b ty ty A (0,0) _ hg hu (by cases d <;> first|rfl|exact hd) hi]
theorem wpList_load_gH {P:Program}{ops:Array Oper}{rest:List Oper}{op:Oper}{a:Act}{w:World}{Q:Exit→Act→World→Prop}(hw:Region.wanted op (yielded ops a.tmps)=true)(ty:TypeId)(x:Operand)(ho:op.op=.load ty x)
  (b o:Nat) (hx:a.eval x=.pointer (some ⟨b,o,none⟩)) (cs:List Value) (d:TypeDesc) (hc:w.rangeAt b o cs)
  (hu:P.underlying ty=some d) (hd:d.isRow=true) (hi:(P.info? ty).map (·.size)=some cs.length)
  (h:wpList P ops Q rest (a.put op.dst (.agg cs.toArray)) w):wpList P ops Q (op::rest) a w :=
 wpList_step fun _ hK=>by rw[if_pos hw];exact wp_load_mid ty x ho b o hx cs d hc hu hd hi (hK _ _ h)
structure Fr (D:Nat→Prop)(w w':World):Prop where
 os:w'.os=w.os
 tape:w'.tape=w.tape
 output:w'.output=w.output
 size:w.heap.size≤w'.heap.size
 block:∀ k,k<w.heap.size→¬ D k→w'.heap[k]?=w.heap[k]?
section
variable {D E:Nat→Prop} {w w' w'':World}
theorem Fr.refl (D:Nat→Prop)(w:World):Fr D w w:=⟨rfl,rfl,rfl,Nat.le_refl _,fun _ _ _=>rfl⟩
theorem Fr.trans (h:Fr D w w')(k:Fr D w' w''):Fr D w w'' :=
 ⟨k.os.trans h.os,k.tape.trans h.tape,k.output.trans h.output,Nat.le_trans h.size k.size,fun i hi h1=>(k.block i (Nat.lt_of_lt_of_le hi h.size) h1).trans (h.block i hi h1)⟩
theorem Fr.mono (h:Fr D w w')(hd:∀ k,k<w.heap.size→D k→E k):Fr E w w':=⟨h.os,h.tape,h.output,h.size,fun k hk h1=>h.block k hk fun h2=>h1 (hd k hk h2)⟩
theorem Fr.of_below (h:Below w.heap.size w w'):Fr D w w':=⟨h.os,h.tape,h.output,h.size,fun k hk _=>h.block k hk⟩
theorem Fr.of_only {p:Nat}(h:Only p w w')(hp:D p):Fr D w w':=⟨h.os,h.tape,h.output,h.size,fun k hk h1=>h.block k hk (by intro e;injection e with e;subst e;exact h1 hp)⟩
theorem Fr.of_two {q m:Nat}(h:Two q m w w')(hq:D q)(hm:D m):Fr D w w':=⟨h.os,h.tape,h.output,h.size,fun k hk h1=>h.block k hk (by rintro rfl;exact h1 hq) (by rintro rfl;exact h1 hm)⟩
theorem Fr.of_grown {r:Option Nat}(h:w.grownBy w' r)(hr:∀ g,r=some g→D g):Fr D w w':=⟨h.os,h.tape,h.output,h.size,fun k hk h1=>h.block k hk (by intro e;exact h1 (hr k e.symm))⟩
theorem Fr.below (h:Fr D w w'){B:Nat}(hB:B≤w.heap.size)(hd:∀ k,k<B→¬ D k):Below B w w':=⟨h.os,h.tape,h.output,h.size,fun k hk=>h.block k (by omega) (hd k hk)⟩
theorem Fr.set {p:Nat}(hp:D p)(o:Nat)(v:Value):Fr D w (w.setCell ⟨p,o,none⟩ v):=.of_only (Only.set p w o v) hp
theorem Fr.drew (h:Fr D w w'):Fr D w w'.drew:=⟨h.os,h.tape,h.output,h.size,h.block⟩
end
theorem GB.fr' {D:Nat→Prop}{T:TypeId}{W W':World}{q:Nat}{A:Array Value}(h:GB T W q A)(hf:Fr D W W')(hq:¬ D q):GB T W' q A:=by
 unfold GB;rw[hf.block q h.lt hq];exact h
theorem GB.set {T:TypeId}{W:World}{q:Nat}{A:Array Value}(h:GB T W q A)(j:Nat)(v:Value):GB T (W.setCell ⟨q,j,none⟩ v) q (A.setIfInBounds j v):=by
 unfold GB at *
 simp only[World.setCell,Array.getElem?_modify,h]
 simp
theorem Rw.fr {α:Type}{k:Nat}{f:α→List Value}{D:Nat→Prop}{w w':World}{v:Value}{l:List α}(hf:∀ x,(f x).length=k)(h:Rw k f w v l)(hr:Fr D w w')(hd:∀ g,v.ownBlock=some g→¬ D g):Rw k f w' v l:=by
 rcases h with h|⟨a,c,rfl,h⟩
 ·exact .inl h
 ·refine .inr ⟨a,c,rfl,?_⟩
  rcases h with h|⟨b,off,rfl,h⟩
  ·exact .inl h
  ·refine .inr ⟨b,off,rfl,fun j hj i hi=>?_⟩
   have h1:=h j hj i hi
   rw[←h1]
   have hn:(f l[j])[i]?=some ((f l[j])[i]'(by rw[hf];exact hi)):=List.getElem?_eq_getElem _
   rw[hn] at h1
   have hlt:=World.block_lt_of_cell? _ _ h1
   simp only[World.cell?,hr.block b hlt (hd b rfl)]
theorem MC.fr' {D:Nat→Prop}{W W':World}{q m:Nat}{a:Ow8}{V:List Vn}{bd cr:Int}(h:MC W q a m V bd cr)(hf:Fr D W W')(hq:¬ D q)(hm:¬ D m):MC W' q a m V bd cr :=
 h.blk (hf.block q h.lt hq) (hf.block m h.om.lt hm)
structure Al where
 st:Int
 tk:Int
 td:Int
def calmA (s:Al):Al:=if s.st=2∧s.tk+1<10 then⟨s.st,s.tk+1,s.td⟩ else⟨0,0,0⟩
def repA (st td x:Int):Al × Int:=if x≤td then(⟨st,0,td⟩,0) else(⟨st,0,x⟩,x)
def tickA (lw:Int)(s:Al)(x:Int):Al × Int :=
 if x<lw then(calmA s,0)
 else if s.st=0 then(⟨1,1,s.td⟩,0)
 else if s.st=1 then(if s.tk+1<2 then(⟨1,s.tk+1,s.td⟩,0) else repA 2 s.td x)
 else repA s.st s.td x
def alA (lw:Int)(s:Al):Array Value:=#[.int .u8 lw,.int .u8 s.st,.int .i64 s.tk,.int .u8 s.td]
abbrev AL (W:World)(r:Nat)(lw:Int)(s:Al):Prop:=GB 169 W r (alA lw s)
section
variable {W:World} {r:Nat} {lw:Int} {s:Al}
theorem AL.c0 (h:AL W r lw s):W.cell? ⟨r,0,none⟩=some (.int .u8 lw):=GB.c h 0 _ rfl
theorem AL.c1 (h:AL W r lw s):W.cell? ⟨r,1,none⟩=some (.int .u8 s.st):=GB.c h 1 _ rfl
theorem AL.c2 (h:AL W r lw s):W.cell? ⟨r,2,none⟩=some (.int .i64 s.tk):=GB.c h 2 _ rfl
theorem AL.c3 (h:AL W r lw s):W.cell? ⟨r,3,none⟩=some (.int .u8 s.td):=GB.c h 3 _ rfl
theorem AL.s1 (h:AL W r lw s)(x:Int):AL (W.setCell ⟨r,1,none⟩ (.int .u8 x)) r lw ⟨x,s.tk,s.td⟩:=GB.set h 1 _
theorem AL.s2 (h:AL W r lw s)(x:Int):AL (W.setCell ⟨r,2,none⟩ (.int .i64 x)) r lw ⟨s.st,x,s.td⟩:=GB.set h 2 _
theorem AL.s3 (h:AL W r lw s)(x:Int):AL (W.setCell ⟨r,3,none⟩ (.int .u8 x)) r lw ⟨s.st,s.tk,x⟩:=GB.set h 3 _
end
structure Al.Ok (s:Al):Prop where
 st:0≤s.st∧s.st≤2
 tk:0≤s.tk∧s.tk≤20
 td:0≤s.td∧s.td≤4
theorem tickA_ok {lw x:Int}{s:Al}(h:s.Ok)(hx:0≤x∧x≤4):(tickA lw s x).1.Ok∧0≤(tickA lw s x).2∧(tickA lw s x).2≤4:=by
 obtain⟨h1,h2,h3⟩:=h
 unfold tickA calmA repA
 (repeat' split) <;> refine⟨⟨?_,?_,?_⟩,?_,?_⟩ <;> simp only <;> omega
theorem anew_any (n:Int)(w:World):Calls Tryz.prog 28 #[.int .u8 n] w fun en w' =>
  (¬(1≤n∧n≤4)∧en=.returned (.tuple #[.pointer none,.int .i64 2])∧w'=w)∨((1≤n∧n≤4)∧en=.returned (.tuple #[.pointer (some ⟨w.heap.size,0,none⟩),.int .i64 0])∧AL w' w.heap.size n ⟨0,0,0⟩∧Below w.heap.size w w'):=by
 go_enter Tryz.func28,Tryz.ntmps28
 by_cases h1:n<1
 ·have d1:decide (n<1)=true:=decide_eq_true h1
  have hn:=hd0 (show ¬(1≤n∧n≤4) by omega)
  clear h1
  go_wp2
  go_ret2
  exact .inl ⟨hn.out,rfl,rfl⟩
 have d1:decide (n<1)=false:=decide_eq_false h1
 by_cases h2:4<n
 ·have d2:decide (4<n)=true:=decide_eq_true h2
  have hn:=hd0 (show ¬(1≤n∧n≤4) by omega)
  clear h1 h2
  go_wp2
  go_ret2
  exact .inl ⟨hn.out,rfl,rfl⟩
 have d2:decide (4<n)=false:=decide_eq_false h2
 have hn:=hd0 (show(1≤n∧n≤4) by omega)
 clear h1 h2
 go_wp2
 go_ret2
 exact .inr ⟨hn.out,rfl,GB.new _ _ _,bA _⟩
theorem acalm_any (r:Nat)(lw:Int)(s:Al)(w:World)(h:AL w r lw s)(hk:s.Ok):Calls Tryz.prog 76 #[.pointer (some ⟨r,0,none⟩)] w fun en w'=>en=.returned (.tuple #[])∧AL w' r lw (calmA s)∧Only r w w':=by
 obtain⟨st,tk,td⟩:=s
 have h1:w.cell? ⟨r,1,none⟩=some (.int .u8 st):=AL.c1 h
 have h2:w.cell? ⟨r,2,none⟩=some (.int .i64 tk):=AL.c2 h
 have hd3:w.cell? ⟨r,3,none⟩=some (.int .u8 td):=AL.c3 h
 have f1:=GB.fr h 1
 have f2:=GB.fr h 2
 have f3:=GB.fr h 3
 have H:=hd0 h
 have hkk:0≤tk∧tk≤20:=hk.tk
 clear h hk
 by_cases hs:st=2
 ·subst hs
  by_cases h3:tk+1<10
  ·have d2:decide (tk+1<10)=true:=decide_eq_true h3
   have hc:=hd0 (show calmA ⟨2,tk,td⟩=⟨2,tk+1,td⟩ by unfold calmA;rw[if_pos ⟨rfl,h3⟩])
   clear h3
   go_enter Tryz.func76,Tryz.ntmps76
   go_wp2
   refine bodyPost_ret (v:=.tuple #[]) (results_none rfl _ _ _) rfl ⟨rfl,by rw[hc.out];exact AL.s2 H.out _,Only.set _ _ _ _⟩
  ·have d2:decide (tk+1<10)=false:=decide_eq_false h3
   have hc:=hd0 (show calmA ⟨2,tk,td⟩=⟨0,0,0⟩ by unfold calmA;rw[if_neg (fun h=>h3 h.2)])
   clear h3
   go_enter Tryz.func76,Tryz.ntmps76
   go_wp2
   go_end0
   exact⟨rfl,by rw[hc.out];exact AL.s3 (AL.s2 (AL.s1 (AL.s2 H.out _) _) _) _,(((Only.set _ _ _ _).trans (Only.set _ _ _ _)).trans (Only.set _ _ _ _)).trans (Only.set _ _ _ _)⟩
 ·have d1:(st==2)=false:=by rw[beq_eq_false_iff_ne];exact hs
  have hc:=hd0 (show calmA ⟨st,tk,td⟩=⟨0,0,0⟩ by unfold calmA;rw[if_neg (fun h=>hs h.1)])
  clear hs
  go_enter Tryz.func76,Tryz.ntmps76
  go_wp2
  go_end0
  exact⟨rfl,by rw[hc.out];exact AL.s3 (AL.s2 (AL.s1 (AL.s2 H.out _) _) _) _,(((Only.set _ _ _ _).trans (Only.set _ _ _ _)).trans (Only.set _ _ _ _)).trans (Only.set _ _ _ _)⟩
theorem told_any (r:Nat)(lw:Int)(s:Al)(w:World)(h:AL w r lw s):Calls Tryz.prog 69 #[.pointer (some ⟨r,0,none⟩)] w fun en w'=>en=.returned (.int .u8 s.td)∧w'=w:=by
 have h3:=AL.c3 h
 clear h
 go_enter Tryz.func69,Tryz.ntmps69
 go_wp2
 go_ret
 exact⟨rfl,rfl⟩
theorem atick_any (r:Nat)(lw x:Int)(s:Al)(w:World)(h:AL w r lw s)(hk:s.Ok)(hx:0≤x∧x≤4):Calls Tryz.prog 34 #[.pointer (some ⟨r,0,none⟩),.int .u8 x] w fun en w'=>en=.returned (.int .u8 (tickA lw s x).2)∧AL w' r lw (tickA lw s x).1∧Only r w w':=by
 obtain⟨R,hR⟩:∃ R,tickA lw s x=R:=⟨_,rfl⟩
 rw[hR]
 have hm:min x 4=x:=by omega
 have CA:=hd0 (acalm_any r lw s w h hk)
 obtain⟨st,tk,td⟩:=s
 have h0:w.cell? ⟨r,0,none⟩=some (.int .u8 lw):=AL.c0 h
 have h1:w.cell? ⟨r,1,none⟩=some (.int .u8 st):=AL.c1 h
 have h2:w.cell? ⟨r,2,none⟩=some (.int .i64 tk):=AL.c2 h
 have h3:w.cell? ⟨r,3,none⟩=some (.int .u8 td):=AL.c3 h
 have f1:=GB.fr h 1
 have f2:=GB.fr h 2
 have f3:=GB.fr h 3
 have H:=hd0 h
 have hkk:0≤tk∧tk≤20:=hk.tk
 clear h hk
 unfold tickA repA at hR
 simp only at hR
 by_cases hl:x<lw
 ·have d1:decide (x<lw)=true:=decide_eq_true hl
  rw[if_pos hl] at hR
  have HR:=hd0 hR
  clear hl hR
  go_enter Tryz.func34,Tryz.ntmps34
  go_wp2_with (go_at_call 76;with_reducible refine CA.out.mono ?_;rintro e w1 ⟨rfl,ha,ho⟩;have HA:=hd0 ha;have HO:=hd0 ho;clear ha ho)
  go_ret
  exact⟨by rw[←HR.out];rfl,by rw[←HR.out];exact HA.out,HO.out⟩
 have d1:decide (x<lw)=false:=decide_eq_false hl
 rw[if_neg hl] at hR
 clear hl
 by_cases hs0:st=0
 ·subst hs0
  rw[if_pos rfl] at hR
  have HR:=hd0 hR
  clear hR CA
  go_enter Tryz.func34,Tryz.ntmps34
  go_upto_region 12 with fail
  have a1:AL (((w.setCell ⟨r,1,none⟩ (.int .u8 1)).setCell ⟨r,2,none⟩ (.int .i64 0)).setCell ⟨r,2,none⟩ (.int .i64 1)) r lw ⟨1,1,td⟩:=AL.s2 (AL.s2 (AL.s1 H.out _) _) _
  have o1:Only r w (((w.setCell ⟨r,1,none⟩ (.int .u8 1)).setCell ⟨r,2,none⟩ (.int .i64 0)).setCell ⟨r,2,none⟩ (.int .i64 1)):=((Only.set _ _ _ _).trans (Only.set _ _ _ _)).trans (Only.set _ _ _ _)
  obtain⟨w1,hw1⟩:∃ z,(((w.setCell ⟨r,1,none⟩ (.int .u8 1)).setCell ⟨r,2,none⟩ (.int .i64 0)).setCell ⟨r,2,none⟩ (.int .i64 1))=z:=⟨_,rfl⟩
  rw[hw1] at a1 o1 ⊢
  have A1:=hd0 a1
  have O1:=hd0 o1
  have c2:=AL.c2 a1
  clear hw1 a1 o1
  go_wp2
  go_ret
  exact⟨by rw[←HR.out];rfl,by rw[←HR.out];exact A1.out,O1.out⟩
 rw[if_neg hs0] at hR
 have e0:(st==0)=false:=by rw[beq_eq_false_iff_ne];exact hs0
 clear hs0
 by_cases hs1:st=1
 ·subst hs1
  rw[if_pos rfl] at hR
  by_cases hw:tk+1<2
  ·have d2:decide (tk+1<2)=true:=decide_eq_true hw
   rw[if_pos hw] at hR
   have HR:=hd0 hR
   clear hR hw CA
   go_enter Tryz.func34,Tryz.ntmps34
   go_wp2
   go_ret
   exact⟨by rw[←HR.out];rfl,by rw[←HR.out];exact AL.s2 H.out _,Only.set _ _ _ _⟩
  ·have d2:decide (tk+1<2)=false:=decide_eq_false hw
   rw[if_neg hw] at hR
   by_cases ht:x≤td
   ·have d3:decide (x≤td)=true:=decide_eq_true ht
    rw[if_pos ht] at hR
    have HR:=hd0 hR
    clear hR hw ht CA
    go_enter Tryz.func34,Tryz.ntmps34
    go_wp2
    go_ret
    exact⟨by rw[←HR.out];rfl,by rw[←HR.out];exact AL.s2 (AL.s1 (AL.s2 H.out _) _) _,((Only.set _ _ _ _).trans (Only.set _ _ _ _)).trans (Only.set _ _ _ _)⟩
   ·have d3:decide (x≤td)=false:=decide_eq_false ht
    rw[if_neg ht] at hR
    have HR:=hd0 hR
    clear hR hw ht CA
    go_enter Tryz.func34,Tryz.ntmps34
    go_wp2
    go_ret
    exact⟨by rw[←HR.out];rfl,by rw[←HR.out];exact AL.s3 (AL.s2 (AL.s1 (AL.s2 H.out _) _) _) _,(((Only.set _ _ _ _).trans (Only.set _ _ _ _)).trans (Only.set _ _ _ _)).trans (Only.set _ _ _ _)⟩
 ·rw[if_neg hs1] at hR
  have e1:(st==1)=false:=by rw[beq_eq_false_iff_ne];exact hs1
  clear hs1
  by_cases ht:x≤td
  ·have d3:decide (x≤td)=true:=decide_eq_true ht
   rw[if_pos ht] at hR
   have HR:=hd0 hR
   clear hR ht CA
   go_enter Tryz.func34,Tryz.ntmps34
   go_wp2
   go_ret
   exact⟨by rw[←HR.out];rfl,by rw[←HR.out];exact AL.s2 H.out _,Only.set _ _ _ _⟩
  ·have d3:decide (x≤td)=false:=decide_eq_false ht
   rw[if_neg ht] at hR
   have HR:=hd0 hR
   clear hR ht CA
   go_enter Tryz.func34,Tryz.ntmps34
   go_wp2
   go_ret
   exact⟨by rw[←HR.out];rfl,by rw[←HR.out];exact AL.s3 (AL.s2 H.out _) _,(Only.set _ _ _ _).trans (Only.set _ _ _ _)⟩
theorem own_any (w:World):Calls Tryz.prog 115 #[] w fun en w'=>en=.returned (.agg #[.int .u8 1,.int .u8 128,.int .u8 194,.int .u8 0,.int .u8 0,.int .u8 0])∧Below w.heap.size w w':=by
 go_enter Tryz.func115,Tryz.ntmps115
 go_wp2
 refine bodyPost_ret (v:=.agg #[.int .u8 1,.int .u8 128,.int .u8 194,.int .u8 0,.int .u8 0,.int .u8 0]) (by simp[results,Tryz.results115,go_sem]) rfl ⟨rfl,?_⟩
 exact(Below.refl _ _).alloc (by simp) _
theorem group_any (a b c d e f:Int)(w:World)(h0:0≤a)(h1:a<256):Calls Tryz.prog 73 #[.agg #[.int .u8 a,.int .u8 b,.int .u8 c,.int .u8 d,.int .u8 e,.int .u8 f]] w fun en w'=>en=.returned (.bool (a % 2==1))∧Below w.heap.size w w':=by
 have e1:bits .and .u8 a 1=a % 2:=bits_mask .u8 8 (by decide) wraps_u8 1 (by decide) a h0 h1
 go_enter Tryz.func73,Tryz.ntmps73
 go_wp2
 go_ret
 exact⟨rfl,(Below.refl _ _).alloc (by simp) _⟩
def grpV (fr l:Int):Value:=if 8≤l then .tuple #[.agg #[.int .u8 0,.int .u8 0,.int .u8 0,.int .u8 0,.int .u8 0,.int .u8 0],.bool false] else .tuple #[.agg #[.int .u8 1,.int .u8 128,.int .u8 194,.int .u8 0,.int .u8 0,.int .u8 (fr+l)],.bool true]
theorem grp_any (fr l:Int)(w:World)(h0:0≤l)(h1:l<256)(h2:0≤fr)(h3:fr≤200):Calls Tryz.prog 80 #[.int .u8 fr,.int .u8 l] w fun en w'=>en=.returned (grpV fr l)∧Below w.heap.size w w':=by
 unfold grpV
 by_cases h:8≤l
 ·rw[if_pos h]
  go_enter Tryz.func80,Tryz.ntmps80
  go_wp2
  refine bodyPost_ret (v:=.tuple #[.agg #[.int .u8 0,.int .u8 0,.int .u8 0,.int .u8 0,.int .u8 0,.int .u8 0],.bool false]) (by simp[results,Tryz.results80,go_sem]) rfl ⟨rfl,?_⟩
  exact(Below.refl _ _).alloc (by simp) _
 ·rw[if_neg h]
  go_enter Tryz.func80,Tryz.ntmps80
  go_wp2_with fail
  refine(own_any _).mono ?_
  rintro en w1 ⟨rfl,hb⟩
  have hz:=hb.size
  simp at hz
  have hz1:w.heap.size<w1.heap.size:=by omega
  have c0:w1.cell? ⟨w.heap.size,0,none⟩=some (.int .u8 0):=(hb.cell (by simp)).trans (by simp[go_sem])
  have f0:w1.frozen? ⟨w.heap.size,0,none⟩=false:=(hb.frozen (by simp)).trans (by simp[go_sem])
  have c1:w1.cell? ⟨w.heap.size,1,none⟩=some (.int .u8 0):=(hb.cell (by simp)).trans (by simp[go_sem])
  have f1:w1.frozen? ⟨w.heap.size,1,none⟩=false:=(hb.frozen (by simp)).trans (by simp[go_sem])
  have c2:w1.cell? ⟨w.heap.size,2,none⟩=some (.int .u8 0):=(hb.cell (by simp)).trans (by simp[go_sem])
  have f2:w1.frozen? ⟨w.heap.size,2,none⟩=false:=(hb.frozen (by simp)).trans (by simp[go_sem])
  have c3:w1.cell? ⟨w.heap.size,3,none⟩=some (.int .u8 0):=(hb.cell (by simp)).trans (by simp[go_sem])
  have f3:w1.frozen? ⟨w.heap.size,3,none⟩=false:=(hb.frozen (by simp)).trans (by simp[go_sem])
  have c4:w1.cell? ⟨w.heap.size,4,none⟩=some (.int .u8 0):=(hb.cell (by simp)).trans (by simp[go_sem])
  have f4:w1.frozen? ⟨w.heap.size,4,none⟩=false:=(hb.frozen (by simp)).trans (by simp[go_sem])
  have c5:w1.cell? ⟨w.heap.size,5,none⟩=some (.int .u8 0):=(hb.cell (by simp)).trans (by simp[go_sem])
  have f5:w1.frozen? ⟨w.heap.size,5,none⟩=false:=(hb.frozen (by simp)).trans (by simp[go_sem])
  have HB:Hid (Below w.heap.size w w1):=((Below.refl w.heap.size w).alloc (by simp) _).trans (hb.mono (by simp))
  clear hb hz
  go_wp2
  refine bodyPost_ret (v:=.tuple #[.agg #[.int .u8 1,.int .u8 128,.int .u8 194,.int .u8 0,.int .u8 0,.int .u8 (fr+l)],.bool true]) (by simp[results,Tryz.results80,go_sem,c0,c1,c2,c3,c4,c5,hz1]) rfl ⟨rfl,?_⟩
  refine Below.alloc ?_ (by simp;omega) _
  refine below_set ?_ (by exact Nat.le_refl _) _
  refine below_set ?_ (by exact Nat.le_refl _) _
  refine below_set ?_ (by exact Nat.le_refl _) _
  refine below_set ?_ (by exact Nat.le_refl _) _
  refine below_set ?_ (by exact Nat.le_refl _) _
  refine below_set ?_ (by exact Nat.le_refl _) _
  exact HB.out
theorem Check_any (l:Int)(w:World)(h0:0≤l)(h1:l<256):Calls Tryz.prog 39 #[.int .u8 l] w fun en w'=>en=.returned (grpV 48 l)∧Below w.heap.size w w':=by
 have hg:=fun w=>grp_any 48 l w h0 h1 (by omega) (by omega)
 have hz0:w.heap.size<w.heap.size+1:=by omega
 unfold grpV at *
 by_cases h:8≤l
 ·rw[if_pos h]
  simp only[if_pos h] at hg
  have HG:=hd0 hg
  clear hg
  go_enter Tryz.func39,Tryz.ntmps39
  go_wp2_with fail
  refine(HG.out _).mono ?_
  rintro en w1 ⟨rfl,hb⟩
  have hz:=hb.size
  simp at hz
  have hz1:w.heap.size<w1.heap.size:=by omega
  have c0:w1.cell? ⟨w.heap.size,0,none⟩=some (.int .u8 0):=(hb.cell (by simp)).trans (by simp[go_sem])
  have f0:w1.frozen? ⟨w.heap.size,0,none⟩=false:=(hb.frozen (by simp)).trans (by simp[go_sem])
  have c1:w1.cell? ⟨w.heap.size,1,none⟩=some (.int .u8 0):=(hb.cell (by simp)).trans (by simp[go_sem])
  have f1:w1.frozen? ⟨w.heap.size,1,none⟩=false:=(hb.frozen (by simp)).trans (by simp[go_sem])
  have c2:w1.cell? ⟨w.heap.size,2,none⟩=some (.int .u8 0):=(hb.cell (by simp)).trans (by simp[go_sem])
  have f2:w1.frozen? ⟨w.heap.size,2,none⟩=false:=(hb.frozen (by simp)).trans (by simp[go_sem])
  have c3:w1.cell? ⟨w.heap.size,3,none⟩=some (.int .u8 0):=(hb.cell (by simp)).trans (by simp[go_sem])
  have f3:w1.frozen? ⟨w.heap.size,3,none⟩=false:=(hb.frozen (by simp)).trans (by simp[go_sem])
  have c4:w1.cell? ⟨w.heap.size,4,none⟩=some (.int .u8 0):=(hb.cell (by simp)).trans (by simp[go_sem])
  have f4:w1.frozen? ⟨w.heap.size,4,none⟩=false:=(hb.frozen (by simp)).trans (by simp[go_sem])
  have c5:w1.cell? ⟨w.heap.size,5,none⟩=some (.int .u8 0):=(hb.cell (by simp)).trans (by simp[go_sem])
  have f5:w1.frozen? ⟨w.heap.size,5,none⟩=false:=(hb.frozen (by simp)).trans (by simp[go_sem])
  have HB:Hid (Below w.heap.size w w1):=((Below.refl w.heap.size w).alloc (by simp) _).trans (hb.mono (by simp))
  clear hb hz hz0
  go_wp2
  refine bodyPost_ret (v:=.tuple #[.agg #[.int .u8 0,.int .u8 0,.int .u8 0,.int .u8 0,.int .u8 0,.int .u8 0],.bool false]) (by simp[results,Tryz.results39,go_sem,c0,c1,c2,c3,c4,c5]) rfl ⟨rfl,?_⟩
  refine below_set ?_ (by exact Nat.le_refl _) _
  refine below_set ?_ (by exact Nat.le_refl _) _
  refine below_set ?_ (by exact Nat.le_refl _) _
  refine below_set ?_ (by exact Nat.le_refl _) _
  refine below_set ?_ (by exact Nat.le_refl _) _
  refine below_set ?_ (by exact Nat.le_refl _) _
  exact HB.out
 ·rw[if_neg h]
  simp only[if_neg h] at hg
  have HG:=hd0 hg
  clear hg
  go_enter Tryz.func39,Tryz.ntmps39
  go_wp2_with fail
  refine(HG.out _).mono ?_
  rintro en w1 ⟨rfl,hb⟩
  have hz:=hb.size
  simp at hz
  have hz1:w.heap.size<w1.heap.size:=by omega
  have c0:w1.cell? ⟨w.heap.size,0,none⟩=some (.int .u8 0):=(hb.cell (by simp)).trans (by simp[go_sem])
  have f0:w1.frozen? ⟨w.heap.size,0,none⟩=false:=(hb.frozen (by simp)).trans (by simp[go_sem])
  have c1:w1.cell? ⟨w.heap.size,1,none⟩=some (.int .u8 0):=(hb.cell (by simp)).trans (by simp[go_sem])
  have f1:w1.frozen? ⟨w.heap.size,1,none⟩=false:=(hb.frozen (by simp)).trans (by simp[go_sem])
  have c2:w1.cell? ⟨w.heap.size,2,none⟩=some (.int .u8 0):=(hb.cell (by simp)).trans (by simp[go_sem])
  have f2:w1.frozen? ⟨w.heap.size,2,none⟩=false:=(hb.frozen (by simp)).trans (by simp[go_sem])
  have c3:w1.cell? ⟨w.heap.size,3,none⟩=some (.int .u8 0):=(hb.cell (by simp)).trans (by simp[go_sem])
  have f3:w1.frozen? ⟨w.heap.size,3,none⟩=false:=(hb.frozen (by simp)).trans (by simp[go_sem])
  have c4:w1.cell? ⟨w.heap.size,4,none⟩=some (.int .u8 0):=(hb.cell (by simp)).trans (by simp[go_sem])
  have f4:w1.frozen? ⟨w.heap.size,4,none⟩=false:=(hb.frozen (by simp)).trans (by simp[go_sem])
  have c5:w1.cell? ⟨w.heap.size,5,none⟩=some (.int .u8 0):=(hb.cell (by simp)).trans (by simp[go_sem])
  have f5:w1.frozen? ⟨w.heap.size,5,none⟩=false:=(hb.frozen (by simp)).trans (by simp[go_sem])
  have HB:Hid (Below w.heap.size w w1):=((Below.refl w.heap.size w).alloc (by simp) _).trans (hb.mono (by simp))
  clear hb hz hz0
  go_wp2
  refine bodyPost_ret (v:=.tuple #[.agg #[.int .u8 1,.int .u8 128,.int .u8 194,.int .u8 0,.int .u8 0,.int .u8 (48+l)],.bool true]) (by simp[results,Tryz.results39,go_sem,c0,c1,c2,c3,c4,c5]) rfl ⟨rfl,?_⟩
  refine below_set ?_ (by exact Nat.le_refl _) _
  refine below_set ?_ (by exact Nat.le_refl _) _
  refine below_set ?_ (by exact Nat.le_refl _) _
  refine below_set ?_ (by exact Nat.le_refl _) _
  refine below_set ?_ (by exact Nat.le_refl _) _
  refine below_set ?_ (by exact Nat.le_refl _) _
  exact HB.out
theorem Trace_any (l:Int)(w:World)(h0:0≤l)(h1:l<256):Calls Tryz.prog 51 #[.int .u8 l] w fun en w'=>en=.returned (grpV 56 l)∧Below w.heap.size w w':=by
 have hg:=fun w=>grp_any 56 l w h0 h1 (by omega) (by omega)
 have hz0:w.heap.size<w.heap.size+1:=by omega
 unfold grpV at *
 by_cases h:8≤l
 ·rw[if_pos h]
  simp only[if_pos h] at hg
  have HG:=hd0 hg
  clear hg
  go_enter Tryz.func51,Tryz.ntmps51
  go_wp2_with fail
  refine(HG.out _).mono ?_
  rintro en w1 ⟨rfl,hb⟩
  have hz:=hb.size
  simp at hz
  have hz1:w.heap.size<w1.heap.size:=by omega
  have c0:w1.cell? ⟨w.heap.size,0,none⟩=some (.int .u8 0):=(hb.cell (by simp)).trans (by simp[go_sem])
  have f0:w1.frozen? ⟨w.heap.size,0,none⟩=false:=(hb.frozen (by simp)).trans (by simp[go_sem])
  have c1:w1.cell? ⟨w.heap.size,1,none⟩=some (.int .u8 0):=(hb.cell (by simp)).trans (by simp[go_sem])
  have f1:w1.frozen? ⟨w.heap.size,1,none⟩=false:=(hb.frozen (by simp)).trans (by simp[go_sem])
  have c2:w1.cell? ⟨w.heap.size,2,none⟩=some (.int .u8 0):=(hb.cell (by simp)).trans (by simp[go_sem])
  have f2:w1.frozen? ⟨w.heap.size,2,none⟩=false:=(hb.frozen (by simp)).trans (by simp[go_sem])
  have c3:w1.cell? ⟨w.heap.size,3,none⟩=some (.int .u8 0):=(hb.cell (by simp)).trans (by simp[go_sem])
  have f3:w1.frozen? ⟨w.heap.size,3,none⟩=false:=(hb.frozen (by simp)).trans (by simp[go_sem])
  have c4:w1.cell? ⟨w.heap.size,4,none⟩=some (.int .u8 0):=(hb.cell (by simp)).trans (by simp[go_sem])
  have f4:w1.frozen? ⟨w.heap.size,4,none⟩=false:=(hb.frozen (by simp)).trans (by simp[go_sem])
  have c5:w1.cell? ⟨w.heap.size,5,none⟩=some (.int .u8 0):=(hb.cell (by simp)).trans (by simp[go_sem])
  have f5:w1.frozen? ⟨w.heap.size,5,none⟩=false:=(hb.frozen (by simp)).trans (by simp[go_sem])
  have HB:Hid (Below w.heap.size w w1):=((Below.refl w.heap.size w).alloc (by simp) _).trans (hb.mono (by simp))
  clear hb hz hz0
  go_wp2
  refine bodyPost_ret (v:=.tuple #[.agg #[.int .u8 0,.int .u8 0,.int .u8 0,.int .u8 0,.int .u8 0,.int .u8 0],.bool false]) (by simp[results,Tryz.results51,go_sem,c0,c1,c2,c3,c4,c5]) rfl ⟨rfl,?_⟩
  refine below_set ?_ (by exact Nat.le_refl _) _
  refine below_set ?_ (by exact Nat.le_refl _) _
  refine below_set ?_ (by exact Nat.le_refl _) _
  refine below_set ?_ (by exact Nat.le_refl _) _
  refine below_set ?_ (by exact Nat.le_refl _) _
  refine below_set ?_ (by exact Nat.le_refl _) _
  exact HB.out
 ·rw[if_neg h]
  simp only[if_neg h] at hg
  have HG:=hd0 hg
  clear hg
  go_enter Tryz.func51,Tryz.ntmps51
  go_wp2_with fail
  refine(HG.out _).mono ?_
  rintro en w1 ⟨rfl,hb⟩
  have hz:=hb.size
  simp at hz
  have hz1:w.heap.size<w1.heap.size:=by omega
  have c0:w1.cell? ⟨w.heap.size,0,none⟩=some (.int .u8 0):=(hb.cell (by simp)).trans (by simp[go_sem])
  have f0:w1.frozen? ⟨w.heap.size,0,none⟩=false:=(hb.frozen (by simp)).trans (by simp[go_sem])
  have c1:w1.cell? ⟨w.heap.size,1,none⟩=some (.int .u8 0):=(hb.cell (by simp)).trans (by simp[go_sem])
  have f1:w1.frozen? ⟨w.heap.size,1,none⟩=false:=(hb.frozen (by simp)).trans (by simp[go_sem])
  have c2:w1.cell? ⟨w.heap.size,2,none⟩=some (.int .u8 0):=(hb.cell (by simp)).trans (by simp[go_sem])
  have f2:w1.frozen? ⟨w.heap.size,2,none⟩=false:=(hb.frozen (by simp)).trans (by simp[go_sem])
  have c3:w1.cell? ⟨w.heap.size,3,none⟩=some (.int .u8 0):=(hb.cell (by simp)).trans (by simp[go_sem])
  have f3:w1.frozen? ⟨w.heap.size,3,none⟩=false:=(hb.frozen (by simp)).trans (by simp[go_sem])
  have c4:w1.cell? ⟨w.heap.size,4,none⟩=some (.int .u8 0):=(hb.cell (by simp)).trans (by simp[go_sem])
  have f4:w1.frozen? ⟨w.heap.size,4,none⟩=false:=(hb.frozen (by simp)).trans (by simp[go_sem])
  have c5:w1.cell? ⟨w.heap.size,5,none⟩=some (.int .u8 0):=(hb.cell (by simp)).trans (by simp[go_sem])
  have f5:w1.frozen? ⟨w.heap.size,5,none⟩=false:=(hb.frozen (by simp)).trans (by simp[go_sem])
  have HB:Hid (Below w.heap.size w w1):=((Below.refl w.heap.size w).alloc (by simp) _).trans (hb.mono (by simp))
  clear hb hz hz0
  go_wp2
  refine bodyPost_ret (v:=.tuple #[.agg #[.int .u8 1,.int .u8 128,.int .u8 194,.int .u8 0,.int .u8 0,.int .u8 (56+l)],.bool true]) (by simp[results,Tryz.results51,go_sem,c0,c1,c2,c3,c4,c5]) rfl ⟨rfl,?_⟩
  refine below_set ?_ (by exact Nat.le_refl _) _
  refine below_set ?_ (by exact Nat.le_refl _) _
  refine below_set ?_ (by exact Nat.le_refl _) _
  refine below_set ?_ (by exact Nat.le_refl _) _
  refine below_set ?_ (by exact Nat.le_refl _) _
  refine below_set ?_ (by exact Nat.le_refl _) _
  exact HB.out
theorem refPut12_any (v:Value)(a b c:Int)(f:List UInt8)(l:List Th)(w:World)(hv:Tls w v l)(hl:l.length≤100000)(hs:∀ x∈l,x.2.length≤maxLen)(hf:f.length≤1000000)(hm:(putT l).1.length≤1000000000)(ha:0≤a∧a<256)(hb:0≤b∧b<256)(hc:0≤c∧c<256) :
  Calls Tryz.prog 85 #[.agg #[.int .u8 a,.int .u8 b,.int .u8 c,.string (bs f),v]] w fun en w'=>en=.returned (.tuple #[.string (bs (putP a b c f l).1),.int .i64 (putP a b c f l).2])∧Below w.heap.size w w':=by
 obtain⟨R,hR⟩:∃ R,putP a b c f l=R:=⟨_,rfl⟩
 have HR:=hd0 hR
 rw[hR];clear hR
 obtain⟨A,e,hP⟩:∃ A e,putT l=(A,e):=⟨_,_,rfl⟩
 rw[hP] at hm
 have P1:∀ w,Tls w v l→Calls Tryz.prog 117 #[v] w fun en w'=>en=.returned (.tuple #[.string (bs A),.int .i64 e])∧Below w.heap.size w w':=fun w h=>by
  have h:=refPut11_any v l w h hl hs
  rw[hP] at h;exact h
 have HP1:=hd0 P1
 have HV:=hd0 hv
 have HP:=hd0 hP
 have HA:=hd0 ha
 have HB:=hd0 hb
 have HC:=hd0 hc
 have hsf:=bs_size f
 have hMA:A.length≤1000000000:=hm
 obtain⟨ad,cp,rfl,_⟩:=hv.shape
 clear P1 hv hP hl hs hm
 go_enter Tryz.func85,Tryz.ntmps85
 go_upto_region 1 with fail
 have pb0:=PB.new 115 w a b c f (.slice ad l.length cp)
 have hb0:Below w.heap.size w (w.alloc (.cells #[.int .u8 a,.int .u8 b,.int .u8 c,.string (bs f),.slice ad l.length cp] 115)):=bA _
 obtain⟨w1,hw1⟩:∃ k,w.alloc (.cells #[.int .u8 a,.int .u8 b,.int .u8 c,.string (bs f),.slice ad l.length cp] 115)=k:=⟨_,rfl⟩
 rw[hw1] at pb0 hb0 ⊢
 have q0:=pb0.c0
 have q3:=pb0.c3
 have q4:=pb0.c4
 have PB0:=hd0 pb0
 have HB0:=hd0 hb0
 clear hw1 pb0 hb0 ha hb hc
 by_cases h7:7<a
 ·have d7:decide (7<a)=true:=decide_eq_true h7
  have hRR:R=([],2):=by rw[←HR.out];unfold putP;rw[if_pos h7]
  have HRR:=hd0 hRR
  clear h7 hRR
  go_wp2_with fail
  refine bodyPost_ret (v:=.tuple #[.string (bs []),.int .i64 2]) (by simp[results,Tryz.results85,go_sem];rfl) rfl ⟨by rw[HRR.out],HB0.out⟩
 have d7:decide (7<a)=false:=decide_eq_false h7
 by_cases h5:255<f.length
 ·have d5:decide ((255:Int)<(f.length:Int))=true:=decide_eq_true (by omega)
  have hRR:R=([],5):=by rw[←HR.out];unfold putP;rw[if_neg (by omega),if_pos h5]
  have HRR:=hd0 hRR
  clear h7 h5 hRR
  go_wp2_with fail
  refine bodyPost_ret (v:=.tuple #[.string (bs []),.int .i64 5]) (by simp[results,Tryz.results85,go_sem];rfl) rfl ⟨by rw[HRR.out],HB0.out⟩
 have d5:decide ((255:Int)<(f.length:Int))=false:=decide_eq_false (by omega)
 go_wp2_with fail
 with_reducible refine(HP1.out _ (HV.out.later HB0.out)).mono ?_
 rintro en w2 ⟨rfl,hb2⟩
 have PB2:=hd0 (PB0.out.later hb2)
 have HB2:=hd0 (HB0.out.trans (hb2.mono HB0.out.size))
 clear hb2 PB0 HB0 q0 q3 q4
 by_cases he:e=0
 ·have hRR:R=(hdP a b c f++f++A,0):=by rw[←HR.out];unfold putP;rw[if_neg (by omega),if_neg (by omega),HP.out,if_pos he]
  have hH:(hdP a b c f).length=4:=rfl
  have a1:=run_add_bs (hdP a b c f) f (by rw[hH];omega)
  have a2:=run_add_bs (hdP a b c f++f) A (by rw[List.length_append,hH];omega)
  have w8:IntKind.u8.wrap (a*32)=a*32:=IntWalk.u8_in _ (by have:=HA.out;omega)
  have wL:IntKind.u8.wrap (f.length:Int)=(f.length:Int):=IntWalk.u8_in _ (by omega)
  have hcv:∀ W:World,(convert 39 9 (.slice (some ⟨W.heap.size,0,none⟩) 4 4)).run Tryz.prog (W.alloc (.cells #[.int .u8 (a*32),.int .u8 b,.int .u8 c,.int .u8 (f.length:Int)] 5))=.ok (.string (bs (hdP a b c f))) (W.alloc (.cells #[.int .u8 (a*32),.int .u8 b,.int .u8 c,.int .u8 (f.length:Int)] 5)):=fun W=>run_string_src (src4 W _ _ _ _ _ (by have:=HA.out;omega) HB.out HC.out (by omega))
  obtain⟨H,hHH⟩:∃ H,hdP a b c f=H:=⟨_,rfl⟩
  rw[hHH] at a1 a2 hcv hRR
  have p0:=PB2.out.c0
  have p1:=PB2.out.c1
  have p2:=PB2.out.c2
  have p3:=PB2.out.c3
  have p3a:∀ o:Obj,(w2.alloc o).cell? ⟨w.heap.size,3,none⟩=some (.string (bs f)):=fun o=>(PB2.out.later (bA o)).c3
  have H3:=hd0 hRR
  clear hRR h7 h5 hH hHH
  subst he
  go_wp2_with fail
  refine bodyPost_ret (v:=.tuple #[.string (bs (H++f++A)),.int .i64 0]) (by simp[results,Tryz.results85,go_sem]) rfl ⟨by rw[H3.out],HB2.out.alloc HB2.out.size _⟩
 ·have d0:(e != 0)=true:=by rw[bne_iff_ne];exact he
  have hRR:R=([],e):=by rw[←HR.out];unfold putP;rw[if_neg (by omega),if_neg (by omega),HP.out,if_neg he]
  have H3:=hd0 hRR
  clear hRR h7 h5 he
  go_wp2_with fail
  refine bodyPost_ret (v:=.tuple #[.string (bs []),.int .i64 e]) (by simp[results,Tryz.results85,go_sem];rfl) rfl ⟨by rw[H3.out],HB2.out⟩
structure Mc where
 a:Int
 b:Int
 c:Int
 d:Int
 e:Int
 f:Int
structure Mc.Ok (m:Mc):Prop where
 a:0≤m.a∧m.a<256
 b:0≤m.b∧m.b<256
 c:0≤m.c∧m.c<256
 d:0≤m.d∧m.d<256
 e:0≤m.e∧m.e<256
 f:0≤m.f∧m.f<256
def mc0:Mc:=⟨0,0,0,0,0,0⟩
def Mc.by (m:Mc):List UInt8:=[byt m.a,byt m.b,byt m.c,byt m.d,byt m.e,byt m.f]
theorem Mc.by_len (m:Mc):m.by.length=6:=rfl
theorem Mc.ext' {m n:Mc}(h0:m.a=n.a)(h1:m.b=n.b)(h2:m.c=n.c)(h3:m.d=n.d)(h4:m.e=n.e)(h5:m.f=n.f):m=n:=by
 cases m;cases n;simp only at *;subst h0 h1 h2 h3 h4 h5;rfl
instance (m n:Mc):Decidable (m=n):=by
 by_cases h:m.a=n.a∧m.b=n.b∧m.c=n.c∧m.d=n.d∧m.e=n.e∧m.f=n.f
 ·exact isTrue (Mc.ext' h.1 h.2.1 h.2.2.1 h.2.2.2.1 h.2.2.2.2.1 h.2.2.2.2.2)
 ·exact isFalse (fun e=>h (by rw[e];exact⟨rfl,rfl,rfl,rfl,rfl,rfl⟩))
structure Tr where
 lv:Int
 nm:Int
 tl:Int
 fr:Mc
 tt:Mc
structure Tr.Ok (t:Tr):Prop where
 lv:0≤t.lv∧t.lv<256
 nm:0≤t.nm∧t.nm<4294967296
 tl:0≤t.tl∧t.tl<256
 fr:t.fr.Ok
 tt:t.tt.Ok
structure Rp where
 lv:Int
 nm:Int
 tl:Int
 st:Bool
 en:Bool
 mi:Mc
 mo:Mc
structure Rp.Ok (r:Rp):Prop where
 lv:0≤r.lv∧r.lv<256
 nm:0≤r.nm∧r.nm<4294967296
 tl:0≤r.tl∧r.tl<256
 mi:r.mi.Ok
 mo:r.mo.Ok
theorem srcM {W:World}{p o:Nat}{m:Mc}(h0:W.cell? ⟨p,o,none⟩=some (.int .u8 m.a))(h1:W.cell? ⟨p,o+1,none⟩=some (.int .u8 m.b))(h2:W.cell? ⟨p,o+2,none⟩=some (.int .u8 m.c))(h3:W.cell? ⟨p,o+3,none⟩=some (.int .u8 m.d))(h4:W.cell? ⟨p,o+4,none⟩=some (.int .u8 m.e))(h5:W.cell? ⟨p,o+5,none⟩=some (.int .u8 m.f))(hw:m.Ok):Src W (.slice (some ⟨p,o,none⟩) 6 6) m.by:=by
 refine .inr ⟨⟨p,o,none⟩,6,rfl,fun j hj=>?_⟩
 have hj6:j<6:=hj
 rw[Go.WideShapes.add_plain]
 have:j=0∨j=1∨j=2∨j=3∨j=4∨j=5:=by omega
 rcases this with rfl|rfl|rfl|rfl|rfl|rfl
 ·exact h0.trans (congrArg some (byteV_byt m.a hw.a).symm)
 ·exact h1.trans (congrArg some (byteV_byt m.b hw.b).symm)
 ·exact h2.trans (congrArg some (byteV_byt m.c hw.c).symm)
 ·exact h3.trans (congrArg some (byteV_byt m.d hw.d).symm)
 ·exact h4.trans (congrArg some (byteV_byt m.e hw.e).symm)
 ·exact h5.trans (congrArg some (byteV_byt m.f hw.f).symm)
theorem kind_any (r:Rp)(w:World):Calls Tryz.prog 144 #[.agg #[.int .u8 r.lv,.int .u32 r.nm,.int .u8 r.tl,.bool r.st,.bool r.en,.int .u8 r.mi.a,.int .u8 r.mi.b,.int .u8 r.mi.c,.int .u8 r.mi.d,.int .u8 r.mi.e,.int .u8 r.mi.f,.int .u8 r.mo.a,.int .u8 r.mo.b,.int .u8 r.mo.c,.int .u8 r.mo.d,.int .u8 r.mo.e,.int .u8 r.mo.f]] w fun en w'=>en=.returned (.int .u8 (if r.en=true then 1 else 2))∧Below w.heap.size w w':=by
 cases he:r.en with
 | true =>
  go_enter Tryz.func144,Tryz.ntmps144
  go_wp2
  go_ret
  exact⟨rfl,bA _⟩
 | false =>
  go_enter Tryz.func144,Tryz.ntmps144
  go_wp2
  go_ret
  exact⟨rfl,bA _⟩
def byTr (t:Tr):List UInt8:=be 4 t.nm++[byt t.tl]++t.fr.by++t.tt.by
def putTr (t:Tr):Int × Int × Int × List UInt8 × Int:=if 7<t.lv then(0,0,0,[],2) else(t.lv,5,128,byTr t,0)
theorem byTr_len (t:Tr):(byTr t).length=17:=by simp[byTr,be_length,Mc.by_len]
theorem ltput_any (t:Tr)(w:World)(ht:t.Ok):Calls Tryz.prog 50 #[.agg #[.int .u8 t.lv,.int .u32 t.nm,.int .u8 t.tl,.int .u8 t.fr.a,.int .u8 t.fr.b,.int .u8 t.fr.c,.int .u8 t.fr.d,.int .u8 t.fr.e,.int .u8 t.fr.f,.int .u8 t.tt.a,.int .u8 t.tt.b,.int .u8 t.tt.c,.int .u8 t.tt.d,.int .u8 t.tt.e,.int .u8 t.tt.f]] w fun en w' =>
  en=.returned (.tuple #[.agg #[.int .u8 (putTr t).1,.int .u8 (putTr t).2.1,.int .u8 (putTr t).2.2.1,.string (bs (putTr t).2.2.2.1),.slice none 0 0],.int .i64 (putTr t).2.2.2.2])∧Below w.heap.size w w':=by
 obtain⟨R,hR⟩:∃ R,putTr t=R:=⟨_,rfl⟩
 rw[hR]
 have HR:=hd0 hR
 have HT:=hd0 ht
 clear hR ht
 go_enter Tryz.func50,Tryz.ntmps50
 go_upto_region 1 with fail
 have g0:=(GB.new 132 w #[.int .u8 t.lv,.int .u32 t.nm,.int .u8 t.tl,.int .u8 t.fr.a,.int .u8 t.fr.b,.int .u8 t.fr.c,.int .u8 t.fr.d,.int .u8 t.fr.e,.int .u8 t.fr.f,.int .u8 t.tt.a,.int .u8 t.tt.b,.int .u8 t.tt.c,.int .u8 t.tt.d,.int .u8 t.tt.e,.int .u8 t.tt.f]).later (bA (.cells yU 103))
 have pz:PB 103 ((w.alloc (.cells #[.int .u8 t.lv,.int .u32 t.nm,.int .u8 t.tl,.int .u8 t.fr.a,.int .u8 t.fr.b,.int .u8 t.fr.c,.int .u8 t.fr.d,.int .u8 t.fr.e,.int .u8 t.fr.f,.int .u8 t.tt.a,.int .u8 t.tt.b,.int .u8 t.tt.c,.int .u8 t.tt.d,.int .u8 t.tt.e,.int .u8 t.tt.f] 132)).alloc (.cells yU 103)) (w.heap.size+1) 0 0 0 [] (.slice none 0 0):=by
  have:=PB.new 103 (w.alloc (.cells #[.int .u8 t.lv,.int .u32 t.nm,.int .u8 t.tl,.int .u8 t.fr.a,.int .u8 t.fr.b,.int .u8 t.fr.c,.int .u8 t.fr.d,.int .u8 t.fr.e,.int .u8 t.fr.f,.int .u8 t.tt.a,.int .u8 t.tt.b,.int .u8 t.tt.c,.int .u8 t.tt.d,.int .u8 t.tt.e,.int .u8 t.tt.f] 132)) 0 0 0 [] (.slice none 0 0)
  rw[show(w.alloc (.cells #[.int .u8 t.lv,.int .u32 t.nm,.int .u8 t.tl,.int .u8 t.fr.a,.int .u8 t.fr.b,.int .u8 t.fr.c,.int .u8 t.fr.d,.int .u8 t.fr.e,.int .u8 t.fr.f,.int .u8 t.tt.a,.int .u8 t.tt.b,.int .u8 t.tt.c,.int .u8 t.tt.d,.int .u8 t.tt.e,.int .u8 t.tt.f] 132)).heap.size=w.heap.size+1 by simp] at this
  exact this
 have hb0:Below w.heap.size w ((w.alloc (.cells #[.int .u8 t.lv,.int .u32 t.nm,.int .u8 t.tl,.int .u8 t.fr.a,.int .u8 t.fr.b,.int .u8 t.fr.c,.int .u8 t.fr.d,.int .u8 t.fr.e,.int .u8 t.fr.f,.int .u8 t.tt.a,.int .u8 t.tt.b,.int .u8 t.tt.c,.int .u8 t.tt.d,.int .u8 t.tt.e,.int .u8 t.tt.f] 132)).alloc (.cells yU 103)):=(bA _).alloc (by simp) _
 obtain⟨w0,hw0⟩:∃ k,(w.alloc (.cells #[.int .u8 t.lv,.int .u32 t.nm,.int .u8 t.tl,.int .u8 t.fr.a,.int .u8 t.fr.b,.int .u8 t.fr.c,.int .u8 t.fr.d,.int .u8 t.fr.e,.int .u8 t.fr.f,.int .u8 t.tt.a,.int .u8 t.tt.b,.int .u8 t.tt.c,.int .u8 t.tt.d,.int .u8 t.tt.e,.int .u8 t.tt.f] 132)).alloc (.cells yU 103)=k:=⟨_,rfl⟩
 rw[hw0] at g0 pz hb0 ⊢
 have c0:w0.cell? ⟨w.heap.size,0,none⟩=some (.int .u8 t.lv):=g0.c 0 _ rfl
 have z0:=pz.c0
 have z1:=pz.c1
 have z2:=pz.c2
 have z3:=pz.c3
 have z4:=pz.c4
 have y0:=pz.fr 0
 have y1:=pz.fr 1
 have y2:=pz.fr 2
 have y3:=pz.fr 3
 have y4:=pz.fr 4
 have G0:=hd0 g0
 have PZ0:=hd0 pz
 have HB0:=hd0 hb0
 have HL:=hd0 pz.lt
 clear hw0 g0 pz hb0
 by_cases h7:7<t.lv
 ·have d7:decide ((7:Int)<t.lv)=true:=decide_eq_true h7
  have hRR:R=(0,0,0,[],2):=by rw[←HR.out];unfold putTr;rw[if_pos h7]
  have HRR:=hd0 hRR
  clear hRR h7
  go_wp2_with fail
  refine bodyPost_ret (v:=.tuple #[.agg #[.int .u8 0,.int .u8 0,.int .u8 0,.string (bs []),.slice none 0 0],.int .i64 2]) (by simp[results,Tryz.results50,go_sem,z0,z1,z2,z3,z4];rfl) rfl ⟨by rw[HRR.out],below_set (below_set (below_set (below_set (below_set HB0.out (by omega) _) (by omega) _) (by omega) _) (by omega) _) (by omega) _⟩
 have d7:decide ((7:Int)<t.lv)=false:=decide_eq_false h7
 have hRR:R=(t.lv,5,128,byTr t,0):=by rw[←HR.out];unfold putTr;rw[if_neg h7]
 have HRR:=hd0 hRR
 clear hRR h7 z0 z1 z2 z3 z4 y0 y1 y2 y3 y4
 go_upto_region 3 with fail
 obtain⟨B,hB⟩:∃ B,w0.heap.size=B:=⟨_,rfl⟩
 have HBB:=hd0 hB
 clear hB
 obtain⟨X,hX⟩:∃ X,be 4 t.nm=X:=⟨_,rfl⟩
 have hXl:X.length=4:=by rw[←hX];exact be_length _ _
 have P1:Hid (∀ W,B≤W.heap.size→Calls Tryz.prog 79 #[.slice none 0 0,.int .u32 t.nm] W fun e w'=>∃ v',e=.returned v'∧Bys w' B v' X∧Below W.heap.size W w'):=fun W hW=>by
  rw[←hX]
  refine(put_uint32 W.heap.size _ [] t.nm W (Nat.le_refl _) (Bys.none _ _) HT.out.nm.1 HT.out.nm.2 (by decide)).mono ?_
  rintro en w' ⟨v',h1,h2,h3⟩
  rw[List.nil_append] at h2
  exact⟨v',h1,World.ownsRow.mono h2 hW,h3⟩
 have SR:=hd0 (fun W:World=>src_one W t.tl HT.out.tl 5)
 have L0:=hd0 (Below.refl B w0)
 go_cut [4] (fun s4 wx=>Hid (Bys wx B s4 (X++[byt t.tl]))∧Hid (Below B w0 wx))
 case first =>
  have Ld:=hd0 (L0.out.drew)
  have k1:w0.drew.cell? ⟨w.heap.size,1,none⟩=some (.int .u32 t.nm):=G0.out.c 1 _ rfl
  have k2:w0.drew.cell? ⟨w.heap.size,2,none⟩=some (.int .u8 t.tl):=G0.out.c 2 _ rfl
  have m2:(w0.alloc (.cells #[.int .u8 t.tl] 5)).drew.cell? ⟨w.heap.size,1,none⟩=some (.int .u32 t.nm):=((G0.out.later (bA _)).drew).c 1 _ rfl
  have hBd:B≤w0.drew.heap.size:=Nat.le_of_eq HBB.out.symm
  have hBa:B≤(w0.alloc (.cells #[.int .u8 t.tl] 5)).drew.heap.size:=by show B≤(w0.alloc _).heap.size;simp;have:=HBB.out;omega
  have hBc:B≤(w0.drew.alloc (.cells #[.int .u8 t.tl] 5)).heap.size:=by simp;have:=HBB.out;omega
  have HBd:=hd0 hBd
  have HBa:=hd0 hBa
  have HBc:=hd0 hBc
  have Lc:=hd0 (Ld.out.alloc hBd (.cells #[.int .u8 t.tl] 5))
  have La:=hd0 ((L0.out.alloc (Nat.le_of_eq HBB.out.symm) (.cells #[.int .u8 t.tl] 5)).drew)
  have hlt0:w.heap.size<w0.drew.heap.size:=Nat.lt_of_succ_lt HL.out
  have HLT:=hd0 hlt0
  clear hBd hBa hBc hlt0
  go_region_law (first
   |(go_simp;go_at_call 79;(first
     |((with_reducible refine(P1.out w0.drew HBd.out).mono ?_);rintro en wx ⟨vx,rfl,hox,hbx⟩;have Lx:=hd0 (Ld.out.trans (hbx.mono HBd.out));have kx:wx.cell? ⟨w.heap.size,2,none⟩=some (.int .u8 t.tl):=(hbx.cell (p:=⟨w.heap.size,2,none⟩) HLT.out).trans k2)
     |((with_reducible refine(P1.out _ HBc.out).mono ?_);rintro en wx ⟨vx,rfl,hox,hbx⟩;have hSx:=(SR.out _).later hbx;have Lx:=hd0 (Lc.out.trans (hbx.mono HBc.out)))
     |((with_reducible refine(P1.out _ HBa.out).mono ?_);rintro en wx ⟨vx,rfl,hox,hbx⟩;have hSx:=((SR.out w0).later (Below.refl _ _).drew).later hbx;have Lx:=hd0 (La.out.trans (hbx.mono HBa.out)))))
   |(refine step_append_src rfl (.tmp 11) (.tmp 14) rfl B _ X (by rfl) (by first|exact hox|exact hox.alloc _) _ [byt t.tl] (by rfl) (by first|exact SR.out _|exact hSx) (by simp[hXl]) (by have h1:=Lx.out.size;have:=HBB.out;simp;omega) ?_;intro v1 w3 hown1 hb3))
  all_goals go_wp2_with fail
  all_goals go_meet
  all_goals first
   | exact⟨hd0 hown1,hd0 (Lx.out.trans hb3)⟩
   | exact⟨hd0 hown1,hd0 ((Lx.out.alloc (by have h1:=Lx.out.size;have:=HBB.out;omega) _).trans hb3)⟩
 case rest =>
  obtain⟨HO1,HB1⟩:=hcut
  have hwB:w.heap.size+1<B:=by have:=HL.out;have:=HBB.out;omega
  have HWB:=hd0 hwB
  have S3:Hid (∀ W,Below B w0 W→Src W (.slice (some ⟨w.heap.size,3,none⟩) 6 6) t.fr.by):=fun W h=>by
   have g:=G0.out.below (show w.heap.size<B by omega) h
   exact srcM (g.c 3 _ rfl) (g.c 4 _ rfl) (g.c 5 _ rfl) (g.c 6 _ rfl) (g.c 7 _ rfl) (g.c 8 _ rfl) HT.out.fr
  have S9:Hid (∀ W,Below B w0 W→Src W (.slice (some ⟨w.heap.size,9,none⟩) 6 6) t.tt.by):=fun W h=>by
   have g:=G0.out.below (show w.heap.size<B by omega) h
   exact srcM (g.c 9 _ rfl) (g.c 10 _ rfl) (g.c 11 _ rfl) (g.c 12 _ rfl) (g.c 13 _ rfl) (g.c 14 _ rfl) HT.out.tt
  have HW0:=hd0 (Nat.le_of_eq HBB.out.symm)
  clear hwB L0 SR P1
  go_upto_region 4 with fail
  go_cut [4] (fun s4 wx=>Hid (Bys wx B s4 (byTr t))∧Hid (Below B w0 wx))
  case first =>
   have L1:=hd0 (HB1.out.drew)
   go_region_law (first
    |(refine step_append_src rfl (.tmp 16) (.tmp 18) rfl B _ (X++[byt t.tl]) (by rfl) (by exact HO1.out) _ t.fr.by (by rfl) (by exact S3.out _ L1.out) (by simp[hXl,Mc.by_len]) (by exact Nat.le_trans HW0.out L1.out.size) ?_;intro v1 w3 hown1 hb3)
    |(refine step_append_src rfl (.tmp 19) (.tmp 21) rfl B _ _ (by rfl) (by exact hown1) _ t.tt.by (by rfl) (by exact S9.out _ (L1.out.trans hb3)) (by simp[hXl,Mc.by_len]) (by exact Nat.le_trans HW0.out (L1.out.trans hb3).size) ?_;intro v2 w4 hown2 hb4))
   all_goals go_wp2_with fail
   all_goals go_meet
   all_goals exact⟨hd0 (by unfold byTr;rw[hX];exact hown2),hd0 ((L1.out.trans hb3).trans hb4)⟩
  case rest =>
   clear HO1 HB1 S3 S9
   obtain⟨HO2,HB2⟩:=hcut
   have hstr:=run_string_bys HO2.out
   have g2:=G0.out.below (show w.heap.size<B by have:=HWB.out;omega) HB2.out
   have p2:=PZ0.out.below (show w.heap.size+1<B from HWB.out) HB2.out
   have c0:wc.cell? ⟨w.heap.size,0,none⟩=some (.int .u8 t.lv):=g2.c 0 _ rfl
   have z0:=p2.c0
   have z1:=p2.c1
   have z2:=p2.c2
   have z3:=p2.c3
   have z4:=p2.c4
   have y0:=p2.fr 0
   have y1:=p2.fr 1
   have y2:=p2.fr 2
   have y3:=p2.fr 3
   have y4:=p2.fr 4
   have HB3:=hd0 (HB0.out.trans (HB2.out.mono (by have:=HWB.out;omega)))
   clear g2 p2 HO2 HB2 hX hXl G0 PZ0 HB0
   go_wp2_with fail
   refine bodyPost_ret (v:=.tuple #[.agg #[.int .u8 t.lv,.int .u8 5,.int .u8 128,.string (bs (byTr t)),.slice none 0 0],.int .i64 0]) (by simp[results,Tryz.results50,go_sem,z0,z1,z2,z3,z4]) rfl ⟨by rw[HRR.out],below_set (below_set (below_set (below_set (below_set HB3.out (by omega) _) (by omega) _) (by omega) _) (by omega) _) (by omega) _⟩
theorem PB.sets5G {T:TypeId}{W:World}{q:Nat}{a b c a' b' c':Int}{f f':List UInt8}{v v':Value}(h:PB T W q a b c f v) :
  PB T (((((W.setCell ⟨q,0,none⟩ (.int .u8 a')).setCell ⟨q,1,none⟩ (.int .u8 b')).setCell ⟨q,2,none⟩ (.int .u8 c')).setCell ⟨q,3,none⟩ (.string (bs f'))).setCell ⟨q,4,none⟩ v') q a' b' c' f' v':=by
 unfold PB at *
 simp[World.setCell,Array.getElem?_modify,h]
theorem PB.setv4G {T:TypeId}{W:World}{q:Nat}{a b c:Int}{f:List UInt8}{v:Value}(h:PB T W q a b c f v)(d:Value):PB T (W.setCell ⟨q,4,none⟩ d) q a b c f d:=by
 unfold PB at *;simp[World.setCell,Array.getElem?_modify,h]
end Go.Proofs.YtlkdfofpnmpidaaGreat
